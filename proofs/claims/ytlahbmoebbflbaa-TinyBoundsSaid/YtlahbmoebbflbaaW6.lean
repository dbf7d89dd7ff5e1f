import Derived.Test.YtlahbmoebbflbaaW5
import Derived.Test.YtlahbmoebbflbaaFacts
import Derived.Test.YtlahbmoebbflbaaHwX
set_option linter.unusedVariables false
set_option linter.unusedSectionVars false
set_option linter.unusedSimpArgs false
set_option maxRecDepth 100000
set_option maxHeartbeats 8000000
namespace Go.Proofs.Ytlahbmoebbflbaa
open Go Go.Proofs.Ytlahbmoebbflbaa.Hw
def hawthornref08_Parts (a0 : Int) : Int × Int :=
  lt (if decide ((i64 (a0.tdiv 8)) < 1) then 1 else i64 (a0.tdiv 8)) fun p0 => (p0, i64 ((i64 ((i64 (a0 - p0)) * 4)).tdiv 5))
theorem hawthornref08_Parts.ok {G R F} (a0 : Int) (r : Int × Int) (hm : hawthornref08_Parts a0 = r) : CO Try.prog 37 [vI a0] G R (F)
    (Ret fun u R' L' => u = .tuple #[vI r.1, vI r.2] ∧ R' = R ∧ L' = F) := by
  unfold hawthornref08_Parts at hm
  refine co_ofN (N := 15) Try.func37 rfl rfl ?_
  refine c_seq ?_
  refine c_reg ?_
  refine r_u (o_as rfl) ?_
  refine r_u (o_as rfl) ?_
  refine r_nil ?_
  refine x_seq ?_
  refine c_seq ?_
  refine c_reg ?_
  refine r_u (o_mv rfl) ?_
  refine r_u (o_bin rfl rfl (bI_quo a0 8 (by decide))) ?_
  refine r_u (o_as rfl) ?_
  refine r_nil ?_
  refine x_seq ?_
  refine c_seq ?_
  refine c_seq ?_
  refine c_reg ?_
  refine r_u (o_mv rfl) ?_
  refine r_u (o_bin rfl rfl (bI_lt (i64 (a0.tdiv 8)) 1)) ?_
  refine r_nil ?_
  refine x_seq ?_
  obtain ⟨p0, hp1, hm2⟩ := ltx hm
  refine cd_join (E' := [(0, vI a0), (4, vI p0)]) (L' := F) ?_ fun K3 => ?_
  · refine x_seq ?_
    refine c_seq ?_
    refine c_reg ?_
    refine r_u (o_mv rfl) ?_
    refine r_u (o_mv rfl) ?_
    refine r_u (o_mv rfl) ?_
    refine r_u (o_bin rfl rfl (bI_sub a0 p0)) ?_
    refine r_u (o_bin rfl rfl (bI_mul (i64 (a0 - p0)) 4)) ?_
    refine r_u (o_bin rfl rfl (bI_quo (i64 ((i64 (a0 - p0)) * 4)) 5 (by decide))) ?_
    refine r_u (o_as rfl) ?_
    refine r_u (o_as rfl) ?_
    refine r_nil ?_
    refine x_seq ?_
    refine c_ret ?_
    subst hm2
    exact x_r2 rfl (rv_t rfl) (rv_t rfl) (Le.refl _) ⟨_, rfl, rfl, rfl, rfl⟩
  · refine c_if (b := decide ((i64 (a0.tdiv 8)) < 1)) rfl (fun h4 => ?_) fun h4 => ?_
    · have hm5 := ift hp1 h4
      clear hp1
      refine c_reg ?_
      refine r_u (o_as rfl) ?_
      refine r_nil ?_
      subst hm5
      exact x_sub K3 ⟨rfl, rfl, trivial⟩ (fun _ h => st_pk 0 [] (by decide) h)
    · have hm5 := iff_ hp1 h4
      clear hp1
      refine c_skip ?_
      subst hm5
      exact x_sub K3 ⟨rfl, rfl, trivial⟩ (fun _ h => st_pk 0 [] (by decide) h)

def tiny_Tiny_Remove (a0 : tiny_Tiny) (a1 : Str) : Option (Bool × tiny_Tiny) :=
  om a0.r (none) fun x6 => (ring_Rings_Drop x6 a1).bind fun r14 => some (r14.1, (⟨a0.most, a0.s, (some r14.2)⟩ : tiny_Tiny))
theorem tiny_Tiny_Remove.ok {G R F} (b0_ : Nat) (a0 : tiny_Tiny) (g0_ : tiny_Tiny.G) (a1 : Str) (r : Bool × tiny_Tiny) (hm : tiny_Tiny_Remove a0 a1 = some r) : CO Try.prog 38 [pt b0_ 0, vS a1] G R (Bk b0_ 86 [vI a0.most, g0_.s.1, g0_.r.1] :: rO (sketch_Sketch.op g0_.s.2) g0_.s.1 a0.s :: rO (ring_Rings.op g0_.r.2) g0_.r.1 a0.r :: F)
    (Ret fun u R' L' => ∃ (q0 : tiny_Tiny.G), u = vB r.1 ∧ R' = R ∧ L' = Bk b0_ 86 [vI r.2.most, q0.s.1, q0.r.1] :: rO (sketch_Sketch.op q0.s.2) q0.s.1 r.2.s :: rO (ring_Rings.op q0.r.2) q0.r.1 r.2.r :: F) := by
  obtain ⟨⟨pv1, g2⟩, ⟨pv4, g5⟩⟩ := g0_
  unfold tiny_Tiny_Remove at hm
  refine co_ofN (N := 15) Try.func38 rfl rfl ?_
  refine c_seq ?_
  refine c_reg ?_
  refine r_u (o_as rfl) ?_
  refine r_nil ?_
  refine x_seq ?_
  refine c_seq ?_
  refine cd_st (fun _ h => st_pk 3 [2, 0, 1] (by decide) h) ?_
  refine cd_opt (fun ho8 => ?_) (fun x6 b7 ho8 => ?_)
  · rintro rfl
    have hm9 := om_n hm ho8
    clear hm
    cases hm9
  · rintro rfl
    have hm9 := om_s hm ho8
    clear hm
    refine cd_st (fun _ h => st_star_o h) ?_
    refine c_reg ?_
    refine r_u (o_mv rfl) ?_
    refine r_u (o_bin rfl rfl (bP_nep Try.underlying47)) ?_
    refine r_u (o_mv rfl) ?_
    refine r_s (s_y rfl rfl rfl (o_mv rfl)) ?_
    refine r_s (s_y rfl rfl rfl (o_nc rfl)) ?_
    refine r_s (s_y rfl rfl rfl (o_fa fa86_2 rfl)) ?_
    refine r_s (s_y rfl rfl rfl (o_ld 5 sc82 rfl rfl rfl)) ?_
    refine r_s (s_y rfl rfl rfl (o_mv rfl)) ?_
    obtain ⟨r14, hr14, hm20⟩ := bs hm9
    clear hm9
    refine r_sw (s_yw rfl rfl rfl (o_call ca60 rfl (ring_Rings_Drop.ok b7 x6 g5 a1 r14 hr14))) ?_
    rintro _ R _ _ ⟨g15, rfl, rfl, rfl⟩
    refine r_u (o_pt rfl rfl rfl) ?_
    refine r_u (o_as rfl) ?_
    refine r_nil ?_
    refine x_seq ?_
    refine c_ret ?_
    refine ex_st (fun _ h => st_some (f := ring_Rings.op g15) (a := r14.2) (st_star_f (A := ring_Rings.fl b7 r14.2 g15) h)) ?_
    obtain rfl := Option.some.inj hm20
    refine ex_st (fun _ h => st_pk 3 [1, 2, 0] (by decide) h) ?_
    exact x_r1 rfl (rv_t rfl) (Le.refl _) ⟨_, rfl, (⟨(pv1, g2), (pt b7 0, g15)⟩ : tiny_Tiny.G), rfl, rfl, rfl⟩

def tiny_Tiny_Evict (a0 : tiny_Tiny) : Option (Str × Bool × tiny_Tiny) :=
  (tiny_Tiny_Len a0).bind fun r6 => if (r6 == 0) then some ([], false, a0) else om a0.r (none) fun x10 => (ring_Rings_Back x10 1).bind fun r18 => Option.bind (if !r18.2 then (ring_Rings_Back x10 0).bind fun r41 => some (r41.1, r41.2) else some (r18.1, r18.2)) fun p20 => Option.bind (if !p20.2 then (ring_Rings_Back x10 2).bind fun r37 => some r37.1 else some p20.1) fun p24 => (ring_Rings_Drop x10 p24).bind fun r28 => some (p24, true, (⟨a0.most, a0.s, (some r28.2)⟩ : tiny_Tiny))
theorem tiny_Tiny_Evict.ok {G R F} (b0_ : Nat) (a0 : tiny_Tiny) (g0_ : tiny_Tiny.G) (r : Str × Bool × tiny_Tiny) (hm : tiny_Tiny_Evict a0 = some r) : CO Try.prog 39 [pt b0_ 0] G R (Bk b0_ 86 [vI a0.most, g0_.s.1, g0_.r.1] :: rO (sketch_Sketch.op g0_.s.2) g0_.s.1 a0.s :: rO (ring_Rings.op g0_.r.2) g0_.r.1 a0.r :: F)
    (Ret fun u R' L' => ∃ (q0 : tiny_Tiny.G), u = .tuple #[vS r.1, vB r.2.1] ∧ R' = R ∧ L' = Bk b0_ 86 [vI r.2.2.most, q0.s.1, q0.r.1] :: rO (sketch_Sketch.op q0.s.2) q0.s.1 r.2.2.s :: rO (ring_Rings.op q0.r.2) q0.r.1 r.2.2.r :: F) := by
  obtain ⟨⟨pv1, g2⟩, ⟨pv4, g5⟩⟩ := g0_
  unfold tiny_Tiny_Evict at hm
  refine co_ofN (N := 44) Try.func39 rfl rfl ?_
  refine c_seq ?_
  refine c_reg ?_
  refine r_u (o_as rfl) ?_
  refine r_u (o_as rfl) ?_
  refine r_nil ?_
  refine x_seq ?_
  refine c_seq ?_
  refine c_seq ?_
  refine c_reg ?_
  refine r_u (o_mv rfl) ?_
  obtain ⟨r6, hr6, hm7⟩ := bs hm
  clear hm
  refine r_c (s_w (o_call ca31 rfl (tiny_Tiny_Len.ok b0_ a0 (⟨(pv1, g2), (pv4, g5)⟩ : tiny_Tiny.G) r6 hr6))) ?_
  refine r_u (o_bin rfl rfl (bI_eq r6 0)) ?_
  refine r_nil ?_
  refine x_seq ?_
  refine c_if (b := (r6 == 0)) rfl (fun h8 => ?_) fun h8 => ?_
  · have hm9 := ift hm7 h8
    clear hm7
    refine c_seq ?_
    refine c_reg ?_
    refine r_u (o_as rfl) ?_
    refine r_u (o_as rfl) ?_
    refine r_nil ?_
    refine x_seq ?_
    refine c_ret ?_
    obtain rfl := Option.some.inj hm9
    exact x_r2 rfl (rv_t rfl) (rv_t rfl) (Le.refl _) ⟨_, rfl, (⟨(pv1, g2), (pv4, g5)⟩ : tiny_Tiny.G), rfl, rfl, rfl⟩
  · have hm9 := iff_ hm7 h8
    clear hm7
    refine c_skip ?_
    refine x_seq ?_
    refine c_seq ?_
    refine cd_st (fun _ h => st_pk 3 [2, 0, 1] (by decide) h) ?_
    refine cd_opt (fun ho12 => ?_) (fun x10 b11 ho12 => ?_)
    · rintro rfl
      have hm13 := om_n hm9 ho12
      clear hm9
      cases hm13
    · rintro rfl
      have hm13 := om_s hm9 ho12
      clear hm9
      refine cd_st (fun _ h => st_star_o h) ?_
      refine c_reg ?_
      refine r_u (o_mv rfl) ?_
      refine r_u (o_nc rfl) ?_
      refine r_u (o_fa fa86_2 rfl) ?_
      refine r_u (o_ld 5 sc82 rfl rfl rfl) ?_
      obtain ⟨r18, hr18, hm19⟩ := bs hm13
      clear hm13
      refine r_c (s_w (o_call ca58 rfl (ring_Rings_Back.ok b11 x10 g5 1 r18 hr18))) ?_
      refine r_u (o_mv rfl) ?_
      refine r_u (o_ext rfl rfl) ?_
      refine r_u (o_ext rfl rfl) ?_
      refine r_u (o_as rfl) ?_
      refine r_u (o_as rfl) ?_
      refine r_nil ?_
      refine x_seq ?_
      refine c_seq ?_
      refine c_seq ?_
      refine c_reg ?_
      refine r_u (o_mv rfl) ?_
      refine r_u (o_not rfl) ?_
      refine r_nil ?_
      refine x_seq ?_
      obtain ⟨p20, hp21, hm22⟩ := bs hm19
      refine cd_join (E' := [(0, pt b0_ 0), (4, vS p20.1), (5, vB p20.2)]) (L' := Bk b11 111 [vI x10.lists, g5.slots, g5.free, g5.at_, g5.many] :: Bk b0_ 86 [vI a0.most, pv1, pt b11 0] :: OwS true 113 4 ring_slot.c g5.slots x10.slots :: OwS true 3 1 eI g5.free x10.free :: OwM vS vI g5.at_ x10.at_ :: OwS true 3 1 eI g5.many x10.many :: rO (sketch_Sketch.op g2) pv1 a0.s :: F) ?_ fun K23 => ?_
      · refine x_seq ?_
        refine c_seq ?_
        refine c_seq ?_
        refine c_reg ?_
        refine r_u (o_mv rfl) ?_
        refine r_u (o_not rfl) ?_
        refine r_nil ?_
        refine x_seq ?_
        obtain ⟨p24, hp25, hm26⟩ := bs hm22
        refine cd_join (E' := [(0, pt b0_ 0), (4, vS p24)]) (L' := Bk b11 111 [vI x10.lists, g5.slots, g5.free, g5.at_, g5.many] :: Bk b0_ 86 [vI a0.most, pv1, pt b11 0] :: OwS true 113 4 ring_slot.c g5.slots x10.slots :: OwS true 3 1 eI g5.free x10.free :: OwM vS vI g5.at_ x10.at_ :: OwS true 3 1 eI g5.many x10.many :: rO (sketch_Sketch.op g2) pv1 a0.s :: F) ?_ fun K27 => ?_
        · refine x_seq ?_
          refine c_seq ?_
          refine c_reg ?_
          refine r_u (o_mv rfl) ?_
          refine r_u (o_nc rfl) ?_
          refine r_u (o_fa fa86_2 rfl) ?_
          refine r_u (o_ld 1 sc82 rfl rfl rfl) ?_
          refine r_u (o_mv rfl) ?_
          obtain ⟨r28, hr28, hm34⟩ := bs hm26
          clear hm26
          refine rl_st (fun _ h => st_pk 7 [0, 2, 3, 4, 5, 1, 6] (by decide) h) ?_
          refine r_sw (s_w (o_call ca60 rfl (ring_Rings_Drop.ok b11 x10 g5 p24 r28 hr28))) ?_
          rintro _ R _ _ ⟨g29, rfl, rfl, rfl⟩
          refine r_nil ?_
          refine x_seq ?_
          refine c_seq ?_
          refine c_reg ?_
          refine r_u (o_mv rfl) ?_
          refine r_u (o_as rfl) ?_
          refine r_u (o_as rfl) ?_
          refine r_nil ?_
          refine x_seq ?_
          refine c_ret ?_
          refine ex_st (fun _ h => st_some (f := ring_Rings.op g29) (a := r28.2) (st_star_f (A := ring_Rings.fl b11 r28.2 g29) h)) ?_
          obtain rfl := Option.some.inj hm34
          refine ex_st (fun _ h => st_pk 3 [1, 2, 0] (by decide) h) ?_
          exact x_r2 rfl (rv_t rfl) (rv_t rfl) (Le.refl _) ⟨_, rfl, (⟨(pv1, g2), (pt b11 0, g29)⟩ : tiny_Tiny.G), rfl, rfl, rfl⟩
        · refine c_if (b := !p20.2) rfl (fun h35 => ?_) fun h35 => ?_
          · have hm36 := ift hp25 h35
            clear hp25
            refine c_reg ?_
            refine r_u (o_mv rfl) ?_
            refine r_u (o_nc rfl) ?_
            refine r_u (o_fa fa86_2 rfl) ?_
            refine r_u (o_ld 1 sc82 rfl rfl rfl) ?_
            obtain ⟨r37, hr37, hm38⟩ := bs hm36
            clear hm36
            refine rl_st (fun _ h => st_pk 7 [0, 2, 3, 4, 5, 1, 6] (by decide) h) ?_
            refine r_c (s_w (o_call ca58 rfl (ring_Rings_Back.ok b11 x10 g5 2 r37 hr37))) ?_
            refine r_u (o_mv rfl) ?_
            refine r_u (o_ext rfl rfl) ?_
            refine r_u (o_ext rfl rfl) ?_
            refine r_u (o_as rfl) ?_
            refine r_nil ?_
            obtain rfl := Option.some.inj hm38
            exact x_sub K27 ⟨rfl, rfl, trivial⟩ (fun _ h => st_pk 7 [0, 5, 1, 2, 3, 4, 6] (by decide) h)
          · have hm36 := iff_ hp25 h35
            clear hp25
            refine c_skip ?_
            obtain rfl := Option.some.inj hm36
            exact x_sub K27 ⟨rfl, rfl, trivial⟩ (fun _ h => st_pk 7 [0, 1, 2, 3, 4, 5, 6] (by decide) h)
      · refine c_if (b := !r18.2) rfl (fun h39 => ?_) fun h39 => ?_
        · have hm40 := ift hp21 h39
          clear hp21
          refine c_reg ?_
          refine r_u (o_mv rfl) ?_
          refine r_u (o_nc rfl) ?_
          refine r_u (o_fa fa86_2 rfl) ?_
          refine r_u (o_ld 5 sc82 rfl rfl rfl) ?_
          obtain ⟨r41, hr41, hm42⟩ := bs hm40
          clear hm40
          refine r_c (s_w (o_call ca58 rfl (ring_Rings_Back.ok b11 x10 g5 0 r41 hr41))) ?_
          refine r_u (o_mv rfl) ?_
          refine r_u (o_ext rfl rfl) ?_
          refine r_u (o_ext rfl rfl) ?_
          refine r_u (o_as rfl) ?_
          refine r_u (o_as rfl) ?_
          refine r_nil ?_
          obtain rfl := Option.some.inj hm42
          exact x_sub K23 ⟨rfl, rfl, rfl, trivial⟩ (fun _ h => st_pk 7 [0, 5, 1, 2, 3, 4, 6] (by decide) h)
        · have hm40 := iff_ hp21 h39
          clear hp21
          refine c_skip ?_
          obtain rfl := Option.some.inj hm40
          exact x_sub K23 ⟨rfl, rfl, rfl, trivial⟩ (fun _ h => st_pk 7 [0, 5, 1, 2, 3, 4, 6] (by decide) h)

def ring_kf : Option ring_Rings → Nat
  | none => 1
  | some r => r.slots.length + 1
def ring_Rings_Keys_1_l0 (a2 : Int) (x2 : ring_Rings) : Nat → Int → Option (List Str)
  | 0, _ => none
  | k19 + 1, i_18 => if (i_18 != a2) then (gi x2.slots i_18).bind fun x24 => (ring_Rings_Keys_1_l0 a2 x2 k19 x24.next).bind fun r_ => some (x24.key :: r_) else some []
def ring_Rings_Keys_1 (a1 : Option ring_Rings) (a2 : Int) : Option (List Str) :=
  om a1 (none) fun x2 => if !(ring_Rings_is x2 a2) then some [] else (gi x2.slots a2).bind fun x12 => Option.bind (ring_Rings_Keys_1_l0 a2 x2 (ring_kf a1) x12.next) fun p14 => some p14
/-- The keys of a list of rings come one behind the other, whatever the body does beside them. -/
theorem ring_Rings_Keys_1.ok {G R} (b1_ : Nat) (a1 : Option ring_Rings) (g1_ : Value × ring_Rings.G) (b2_ : Nat) (a2 : Int) (r : List Str) (hm : ring_Rings_Keys_1 a1 a2 = some r) :
    Gives Try.prog G R 78 [pt b1_ 0, pt b2_ 0] vS r [Bk b1_ 82 [g1_.1], rO (ring_Rings.op g1_.2) g1_.1 a1, Bk b2_ 3 [vI a2]] := by
  intro l F Inv h0 hY
  change CO Try.prog 78 [.func (.yield l) #[] #[], pt b1_ 0, pt b2_ 0] G R (Bk b1_ 82 [g1_.1] :: rO (ring_Rings.op g1_.2) g1_.1 a1 :: Bk b2_ 3 [vI a2] :: F) (Ret fun u R' L' => u = .tuple #[] ∧ R' = R ∧ ∃ F', L' = Bk b1_ 82 [g1_.1] :: rO (ring_Rings.op g1_.2) g1_.1 a1 :: Bk b2_ 3 [vI a2] :: F' ∧ Inv r F')
  obtain ⟨pv0, g1⟩ := g1_
  unfold ring_Rings_Keys_1 at hm
  refine co_ofN (N := 39) Try.func78 rfl rfl ?_
  refine c_seq ?_
  refine c_seq ?_
  refine cd_st (fun _ h => st_pk 3 [1, 0, 2] (by decide) h) ?_
  refine cd_opt (fun ho4 => ?_) (fun x2 b3 ho4 => ?_)
  · rintro rfl
    have hm5 := om_n hm ho4
    clear hm
    cases hm5
  · rintro rfl
    have hm5 := om_s hm ho4
    clear hm
    refine cd_st (fun _ h => st_star_o h) ?_
    refine c_reg ?_
    refine r_u (o_ld 5 sc82 rfl rfl rfl) ?_
    refine r_u (o_ld 6 sc3 rfl rfl rfl) ?_
    refine r_c (s_w (o_call ca75 rfl (ring_Rings_is.ok b3 x2 g1 a2 _ rfl))) ?_
    refine r_u (o_not rfl) ?_
    refine r_nil ?_
    refine x_seq ?_
    refine c_if (b := !(ring_Rings_is x2 a2)) rfl (fun h10 => ?_) fun h10 => ?_
    · have hm11 := ift hm5 h10
      clear hm5
      refine c_ret ?_
      refine ex_st (fun _ h => st_some (f := ring_Rings.op g1) (a := x2) (st_star_f (A := ring_Rings.fl b3 x2 g1) h)) ?_
      refine ex_st (fun _ h => st_back ho4 h) ?_
      obtain rfl := Option.some.inj hm11
      refine ex_st (fun _ h => st_pk 3 [1, 0, 2] (by decide) h) ?_
      exact x_r0 rfl (Le.refl _) ⟨_, rfl, rfl, rfl, F, rfl, h0⟩
    · have hm11 := iff_ hm5 h10
      clear hm5
      refine c_skip ?_
      refine x_seq ?_
      refine c_seq ?_
      obtain ⟨x12, hx12, hm13⟩ := bs hm11
      clear hm11
      refine c_any mixed (effs := []) (V := []) ?_
      refine stage_ext [(0, pt b3 0), (1, pt b3 0), (2, pt b3 1), (3, g1.slots), (4, vI a2), (5, pt (sb g1.slots) (so g1.slots + a2.toNat * 4)), (6, pt (sb g1.slots) (so g1.slots + a2.toNat * 4 + 3)), (7, vI x12.next), (8, vI x12.next)] rfl ?_
      refine stage rfl rfl rfl rfl [0, 1, 3, 7, 0, 31, 63, 127, 255] [0, 1, 2, 3, 4, 5, 6, 7, 8] [] rfl rfl rfl (qc rfl rfl (s_u (o_ld 5 sc82 rfl rfl rfl)) (qc rfl rfl (s_u (o_nc rfl)) (qc rfl rfl (s_u (o_fa fa111_1 rfl)) (qc rfl rfl (s_u (o_ld 0 sc109 rfl rfl rfl)) (qc rfl rfl (s_u (o_ld 6 sc3 rfl rfl rfl)) (qc rfl rfl (s_u (o_ixO 1 Try.underlying109 (fun _ => by kernel_rfl) rfl rfl rfl hx12)) (qc rfl rfl (s_u (o_fa fa113_3 rfl)) (qc rfl rfl (s_u (o_ldO 1 3 sc3 rfl rfl hx12 rfl rfl)) (qc rfl rfl (s_u (o_as rfl)) qn))))))))) en ?_
      intro _
      refine ex_sub (E' := [(0, .func (.yield l) #[] #[]), (1, pt b1_ 0), (2, pt b2_ 0), (4, vI x12.next)]) ⟨rfl, rfl, rfl, rfl, trivial⟩ ?_
      refine x_seq ?_
      obtain ⟨p14, hp15, hm16⟩ := bs hm13
      obtain rfl := Option.some.inj hm16
      refine c_blk ?_
      refine cd_loop (σ := Int × List HP × List Str) (M := fun k19 s => ∃ rest, ring_Rings_Keys_1_l0 a2 x2 k19 s.1 = some rest ∧ p14 = s.2.2 ++ rest ∧ Inv s.2.2 s.2.1) (Ef := fun s => [(0, .func (.yield l) #[] #[]), (1, pt b1_ 0), (2, pt b2_ 0), (4, vI s.1)]) (Lf := fun s => Bk b3 111 [vI x2.lists, g1.slots, g1.free, g1.at_, g1.many] :: Bk b1_ 82 [pt b3 0] :: Bk b2_ 3 [vI a2] :: OwS true 113 4 ring_slot.c g1.slots x2.slots :: OwS true 3 1 eI g1.free x2.free :: OwM vS vI g1.at_ x2.at_ :: OwS true 3 1 eI g1.many x2.many :: s.2.1) (ring_kf a1) (x12.next, F, []) ⟨p14, hp15, rfl, h0⟩ ⟨rfl, rfl, rfl, rfl, trivial⟩ (fun _ h => st_pk 7 [0, 5, 6, 1, 2, 3, 4] (by decide) h) (fun s h => by obtain ⟨_, h, _⟩ := h; simp [ring_Rings_Keys_1_l0] at h) fun k19 s hM21 => ?_
      obtain ⟨i_18, Fc, pre⟩ := s
      obtain ⟨rest, hm20, hpre, hInv⟩ := hM21
      replace hpre : p14 = pre ++ rest := hpre
      replace hInv : Inv pre Fc := hInv
      change CD _ _ _ [(0, .func (.yield l) #[] #[]), (1, pt b1_ 0), (2, pt b2_ 0), (4, vI i_18)] R (Bk b3 111 [vI x2.lists, g1.slots, g1.free, g1.at_, g1.many] :: Bk b1_ 82 [pt b3 0] :: Bk b2_ 3 [vI a2] :: OwS true 113 4 ring_slot.c g1.slots x2.slots :: OwS true 3 1 eI g1.free x2.free :: OwM vS vI g1.at_ x2.at_ :: OwS true 3 1 eI g1.many x2.many :: Fc)
      replace hm20 : ring_Rings_Keys_1_l0 a2 x2 (k19 + 1) i_18 = some rest := hm20
      rw [ring_Rings_Keys_1_l0] at hm20
      refine c_seq ?_
      refine c_seq ?_
      refine c_reg ?_
      refine r_u (o_mv rfl) ?_
      refine r_u (o_ld 2 sc3 rfl rfl rfl) ?_
      refine r_u (o_bin rfl rfl (bI_ne i_18 a2)) ?_
      refine r_nil ?_
      refine x_seq ?_
      refine c_if (b := (i_18 != a2)) rfl (fun h22 => ?_) fun h22 => ?_
      · have hm23 := ift hm20 h22
        clear hm20
        refine c_skip ?_
        refine x_seq ?_
        refine c_seq ?_
        refine c_blk ?_
        refine c_seq ?_
        refine c_reg ?_
        refine r_u (o_mv rfl) ?_
        refine r_u (o_ld 1 sc82 rfl rfl rfl) ?_
        refine r_u (o_nc rfl) ?_
        refine r_u (o_fa fa111_1 rfl) ?_
        refine r_u (o_ld 0 sc109 rfl rfl rfl) ?_
        refine r_u (o_mv rfl) ?_
        obtain ⟨x24, hx24, hm25⟩ := bs hm23
        clear hm23
        refine r_u (o_ixO 3 Try.underlying109 (fun _ => by kernel_rfl) rfl rfl rfl hx24) ?_
        refine r_u (o_fa fa113_0 rfl) ?_
        refine r_u (o_ldO0 3 sc9 rfl rfl hx24 rfl rfl) ?_
        obtain ⟨r2, hr2, hm26⟩ := bs hm25
        obtain rfl := Option.some.inj hm26
        refine r_w (o_yield rfl rfl (hY [Bk b3 111 [vI x2.lists, g1.slots, g1.free, g1.at_, g1.many], Bk b1_ 82 [pt b3 0], Bk b2_ 3 [vI a2], OwS true 113 4 ring_slot.c g1.slots x2.slots, OwS true 3 1 eI g1.free x2.free, OwM vS vI g1.at_ x2.at_, OwS true 3 1 eI g1.many x2.many] pre x24.key Fc hInv (by rw [hpre]; simp))) (fun v R' L' _ hC => ?_)
        obtain ⟨hv, hR', F', hL', hInv'⟩ := hC
        subst hv; subst hL'; subst hR'
        refine r_u (o_not rfl) ?_
        refine r_nil ?_
        refine x_seq ?_
        refine c_ff rfl ?_
        refine c_skip ?_
        refine x_blk ?_
        refine x_seq ?_
        refine c_reg ?_
        refine r_u (o_ld 1 sc82 rfl rfl rfl) ?_
        refine r_u (o_nc rfl) ?_
        refine r_u (o_fa fa111_1 rfl) ?_
        refine r_u (o_ld 0 sc109 rfl rfl rfl) ?_
        refine r_u (o_mv rfl) ?_
        refine r_u (o_ixO 3 Try.underlying109 (fun _ => by kernel_rfl) rfl rfl rfl hx24) ?_
        refine r_u (o_fa fa113_3 rfl) ?_
        refine r_u (o_ldO 3 3 sc3 rfl rfl hx24 rfl rfl) ?_
        refine r_u (o_as rfl) ?_
        refine r_nil ?_
        exact x_lp (x24.next, F', pre ++ [x24.key]) ⟨r2, hr2, by rw [hpre]; simp, hInv'⟩ ⟨rfl, rfl, rfl, rfl, trivial⟩ (fun _ h => st_pk 7 [0, 1, 2, 3, 4, 5, 6] (by decide) h)
      · have hm23 := iff_ hm20 h22
        clear hm20
        refine c_exit (x_exit (ks' := _) rfl ?_)
        obtain rfl := Option.some.inj hm23
        rw [List.append_nil] at hpre
        subst hpre
        refine x_end ?_
        refine ex_st (fun _ h => st_pk 7 [0, 3, 4, 5, 6, 1, 2] (by decide) h) ?_
        refine ex_st (fun _ h => st_some (f := ring_Rings.op g1) (a := x2) (st_star_f (A := ring_Rings.fl b3 x2 g1) h)) ?_
        refine ex_st (fun _ h => st_back ho4 h) ?_
        refine ex_st (fun _ h => st_pk 3 [1, 0, 2] (by decide) h) ?_
        exact x_r0 rfl (Le.refl _) ⟨_, rfl, rfl, rfl, Fc, rfl, hInv⟩

theorem ring_Rings_Keys.ok {G R F} (pv : Value) (hpv : pv.cells = #[pv]) (a1 : Int) : CO Try.prog 62 [pv, vI a1] G R F
    (Ret fun u R' L' => ∃ b0 b1, u = .func (.func 78) #[] #[pt b0 0, pt b1 0] ∧ R' = R ∧ L' = Bk b1 3 [vI a1] :: Bk b0 82 [pv] :: F) := by
  refine co_ofN (N := 6) Try.func62 rfl rfl ?_
  refine c_seq ?_
  refine c_reg ?_
  refine r_new (o_bx [pv] rfl hpv) fun b0 => ?_
  refine r_new (o_bx [vI a1] rfl rfl) fun b1 => ?_
  refine r_u (o_as rfl) ?_
  refine r_nil ?_
  refine x_seq ?_
  refine c_seq ?_
  refine c_reg ?_
  refine r_u (o_mf rfl) ?_
  refine r_u (o_as rfl) ?_
  refine r_nil ?_
  refine x_seq ?_
  refine c_ret ?_
  exact x_r1 rfl (rv_t rfl) (Le.refl _) ⟨_, rfl, b0, b1, rfl, rfl, rfl⟩
def tiny_Tiny_Lists_l0 (a0 : tiny_Tiny) : Nat → Int → List (List Str) → Option (List (List Str))
  | 0, _, _ => none
  | k13 + 1, s_12, o => if decide (s_12 < 3) then (ring_Rings_Keys_1 a0.r s_12).bind fun kz => (gi o s_12).bind fun y => (apd 16 y kz).bind fun y2 => tiny_Tiny_Lists_l0 a0 k13 (i64 (s_12 + 1)) (ls o s_12 y2) else some o
def tiny_Tiny_Lists (a0 : tiny_Tiny) : Option (List (List Str)) := tiny_Tiny_Lists_l0 a0 4 0 [[], [], []]
theorem ls_same {α : Type} {o : List α} {i : Int} {y : α} (h : gi o i = some y) : ls o i y = o := by
  obtain ⟨h0, h1⟩ := gi_some h
  obtain ⟨h2, h3⟩ := List.getElem?_eq_some_iff.1 h1
  unfold ls
  rw [← h3]
  exact List.set_getElem_self h2
theorem gi_ls' {α : Type} {o : List α} {i : Int} {y z : α} (h : gi o i = some y) : gi (ls o i z) i = some z := by
  obtain ⟨h0, h1⟩ := gi_some h
  unfold gi ls
  have : i.toNat < o.length := by omega
  rw [if_pos h0.1]
  simp [this]
theorem gi_len {α : Type} {l : List α} {i : Int} (h0 : 0 ≤ i) (h1 : i < (l.length : Int)) : ∃ v, gi l i = some v := by
  have : i.toNat < l.length := by omega
  exact ⟨l[i.toNat], by unfold gi; rw [if_pos h0]; simp [this]⟩
theorem ls_ls {α : Type} {o : List α} {i : Int} {y z : α} : ls (ls o i y) i z = ls o i z := by simp [ls]
theorem apd_some {α : Type} {n : Nat} {l r s : List α} (h : apd n l r = some s) : s = l ++ r ∧ (l.length + r.length) * n ≤ 140737488355328 := by
  unfold apd at h; split at h
  · exact ⟨(Option.some.inj h).symm, by assumption⟩
  · cases h
theorem tiny_Tiny_Lists.ok {G R F} (b0_ : Nat) (a0 : tiny_Tiny) (g0_ : tiny_Tiny.G) (r : List (List Str)) (hm : tiny_Tiny_Lists a0 = some r) : CO Try.prog 40 [pt b0_ 0] G R (Bk b0_ 86 [vI a0.most, g0_.s.1, g0_.r.1] :: rO (sketch_Sketch.op g0_.s.2) g0_.s.1 a0.s :: rO (ring_Rings.op g0_.r.2) g0_.r.1 a0.r :: F)
    (Ret fun u R' L' => ∃ (p0 : Value × Value × Value), u = .agg [p0.1, p0.2.1, p0.2.2].toArray ∧ R' = R ∧ L' = OwL (OwS true 9 1 eS) [p0.1, p0.2.1, p0.2.2] r :: Bk b0_ 86 [vI a0.most, g0_.s.1, g0_.r.1] :: rO (sketch_Sketch.op g0_.s.2) g0_.s.1 a0.s :: rO (ring_Rings.op g0_.r.2) g0_.r.1 a0.r :: F) := by
  obtain ⟨⟨pv1, g2⟩, ⟨pv4, g5⟩⟩ := g0_
  unfold tiny_Tiny_Lists at hm
  refine co_ofM (N := 29) Try.func40 rfl rfl ?_
  refine c_seq ?_
  refine c_reg ?_
  refine r_new (o_al ze64) fun b6 => ?_
  refine r_nil ?_
  refine x_seq ?_
  refine c_seq ?_
  refine c_reg ?_
  refine r_new (o_al ze64) fun b7 => ?_
  refine r_nil ?_
  refine x_seq ?_
  refine c_seq ?_
  refine c_seq ?_
  refine c_reg ?_
  refine r_u (o_mv rfl) ?_
  refine r_u (o_bin rfl rfl (bP_eqp Try.underlying47)) ?_
  refine r_nil ?_
  refine x_seq ?_
  refine c_ff rfl ?_
  refine c_skip ?_
  refine x_seq ?_
  refine c_seq ?_
  refine c_seq ?_
  refine c_reg ?_
  refine r_u (o_mv rfl) ?_
  refine r_nil ?_
  refine x_seq ?_
  refine c_blk ?_
  refine cd_st (fun w h => st_emp (p := OwL (OwS true 9 1 eS) [.slice none 0 0, .slice none 0 0, .slice none 0 0] [[], [], []]) (OwL.rep (fun h => OwS.nil) 3 _) h) ?_
  refine cd_loopD (σ := Int × List (List Str) × List Value × List Deferred) (M := fun k s => tiny_Tiny_Lists_l0 a0 k s.1 s.2.1 = some r ∧ s.2.2.1.length = 3) (Df := fun s => s.2.2.2)
    (Ef := fun s => [(0, pt b0_ 0), (2, pt b6 0), (3, pt b7 0), (9, vI s.1)]) (Rf := fun _ => R)
    (Lf := fun s => MkC s.2.2.2 :: Bk b7 64 s.2.2.1 :: OwL (OwS true 9 1 eS) s.2.2.1 s.2.1 :: Bk b6 64 [.slice none 0 0, .slice none 0 0, .slice none 0 0] :: Bk b0_ 86 [vI a0.most, pv1, pv4] :: rO (sketch_Sketch.op g2) pv1 a0.s :: rO (ring_Rings.op g5) pv4 a0.r :: F)
    4 (0, [[], [], []], [.slice none 0 0, .slice none 0 0, .slice none 0 0], []) ⟨hm, rfl⟩ rfl ⟨rfl, rfl, rfl, rfl, trivial⟩ (fun _ h => st_pk 7 [3, 1, 0, 2, 4, 5, 6] (by decide) h) (fun s h => by simp [tiny_Tiny_Lists_l0] at h) fun k13 s hM15 => ?_
  obtain ⟨s_12, o, vs, ds⟩ := s
  obtain ⟨hm14, hlen⟩ := hM15
  replace hm14 : tiny_Tiny_Lists_l0 a0 (k13 + 1) s_12 o = some r := hm14
  replace hlen : vs.length = 3 := hlen
  rw [tiny_Tiny_Lists_l0] at hm14
  change CD _ _ _ [(0, pt b0_ 0), (2, pt b6 0), (3, pt b7 0), (9, vI s_12)] R (MkC ds :: Bk b7 64 vs :: OwL (OwS true 9 1 eS) vs o :: Bk b6 64 [.slice none 0 0, .slice none 0 0, .slice none 0 0] :: Bk b0_ 86 [vI a0.most, pv1, pv4] :: rO (sketch_Sketch.op g2) pv1 a0.s :: rO (ring_Rings.op g5) pv4 a0.r :: F)
  refine c_seq ?_
  refine c_reg ?_
  refine r_u (o_bin rfl rfl (bI_lt s_12 3)) ?_
  refine r_nil ?_
  refine x_seq ?_
  refine c_seq ?_
  refine c_if (b := decide (s_12 < 3)) rfl (fun h16 => ?_) fun h16 => ?_
  · have hm17 := ift hm14 h16
    clear hm14
    obtain ⟨kz, hkz, hm18⟩ := bs hm17
    obtain ⟨y, hy, hm19⟩ := bs hm18
    obtain ⟨y2, hy2, hm20⟩ := bs hm19
    obtain ⟨rfl, hbnd⟩ := apd_some hy2
    refine c_skip ?_
    refine x_seq ?_
    refine c_seq ?_
    refine c_blk ?_
    refine c_seq ?_
    refine c_reg ?_
    refine r_u (o_mv rfl) ?_
    refine r_new (o_al ze3) fun b18 => ?_
    refine r_u0 (o_st sc3 rfl rfl rfl rfl rfl rfl) ?_
    refine r_nil ?_
    refine x_seq ?_
    refine c_seq ?_
    refine cd_st (fun _ h => st_pk 8 [7, 0, 1, 2, 3, 4, 5, 6] (by decide) h) ?_
    refine cd_opt (fun ho4 => ?_) (fun x2 b3 ho4 => ?_)
    · rintro rfl
      rw [ho4] at hkz
      cases hkz
    · rintro rfl
      rw [ho4] at hkz
      refine cd_st (fun _ h => st_some (f := ring_Rings.op g5) (a := x2) h) ?_
      refine c_any mixed (effs := [5]) (V := []) ?_
      refine stage_ext [(0, pt b0_ 0), (1, pt b0_ 0), (2, pt b0_ 2), (3, pt b3 0), (4, vI s_12)] rfl ?_
      refine stage rfl rfl rfl rfl [0, 1, 3, 7, 0, 31] [0, 1, 2, 3, 4] [5] rfl rfl rfl (qc rfl rfl (s_u (o_mv rfl)) (qc rfl rfl (s_u (o_nc rfl)) (qc rfl rfl (s_u (o_fa fa86_2 rfl)) (qc rfl rfl (s_u (o_ld 6 sc82 rfl rfl rfl)) (qc rfl rfl (s_u (o_ld 1 sc3 rfl rfl rfl)) qn))))) ?_ (fun h => absurd h (by decide))
      refine ec (eo_w rfl (s_w (o_call ca62 rfl (ring_Rings_Keys.ok (pt b3 0) rfl s_12))) ?_) en
      rintro u R _ _ ⟨c0, c1, rfl, rfl, rfl⟩
      refine stage rfl rfl rfl rfl [0, 1, 3, 7, 0, 31] [] [] rfl rfl rfl qn en ?_
      intro _
      refine ex_sub (E' := [(0, pt b0_ 0), (2, pt b6 0), (3, pt b7 0), (4, pt b18 0), (9, vI s_12), (17, .func (.func 78) #[] #[pt c0 0, pt c1 0])]) ⟨rfl, rfl, rfl, rfl, rfl, rfl, trivial⟩ ?_
      refine x_seq ?_
      refine c_blk ?_
      refine cd_st (fun _ h => st_pk 10 [1, 2, 0, 5, 6, 3, 4, 7, 8, 9] (by decide) h) ?_
      refine c_rangeR (kz := kz) (A0 := [Bk c0 82 [pt b3 0], rO (ring_Rings.op g5) (pt b3 0) (some x2), Bk c1 3 [vI s_12]])
        (L0 := Bk b7 64 vs :: OwL (OwS true 9 1 eS) vs o :: Bk b18 3 [vI s_12] :: MkC ds :: Bk b6 64 [.slice none 0 0, .slice none 0 0, .slice none 0 0] :: Bk b0_ 86 [vI a0.most, pv1, pt b3 0] :: rO (sketch_Sketch.op g2) pv1 a0.s :: F)
        (fun pre L => ∃ vs' : List Value, vs'.length = 3 ∧ L = Bk b7 64 vs' :: OwL (OwS true 9 1 eS) vs' (ls o s_12 (y ++ pre)) :: Bk b18 3 [vI s_12] :: MkC ds :: Bk b6 64 [.slice none 0 0, .slice none 0 0, .slice none 0 0] :: Bk b0_ 86 [vI a0.most, pv1, pt b3 0] :: rO (sketch_Sketch.op g2) pv1 a0.s :: F)
        rfl ca78 rfl (ring_Rings_Keys_1.ok c0 (some x2) (pt b3 0, g5) c1 s_12 kz hkz) ⟨vs, hlen, by rw [List.append_nil, ls_same hy]⟩
        (E1 := fun k => [(0, pt b0_ 0), (2, pt b6 0), (3, pt b7 0), (4, pt b18 0), (5, vS k), (9, vI s_12)]) (fun k y e1 e2 e3 e4 ks L hx => ?_) (fun l T pre k L1 hi hl => ?_) (fun D L1 hi => ?_)
      · refine c_reg ?_
        refine r_u (o_as rfl) ?_ (by rw [e3]; rfl)
        refine r_nil ?_
        exact ex_sub (E' := [(0, pt b0_ 0), (2, pt b6 0), (3, pt b7 0), (4, pt b18 0), (5, vS k), (9, vI s_12)]) ⟨rfl, rfl, rfl, rfl, rfl, rfl, trivial⟩ hx
      · obtain ⟨vs', hlen', rfl⟩ := hi
        have h3 : s_12 < 3 := by simpa using h16
        have h0 : 0 ≤ s_12 := (gi_some hy).1.1
        obtain ⟨v, hv⟩ := gi_len (l := vs') h0 (by omega)
        have hy' : gi (ls o s_12 (y ++ pre)) s_12 = some (y ++ pre) := gi_ls' hy
        have hb : apd 16 (y ++ pre) [k] = some (y ++ pre ++ [k]) := by
          unfold apd; rw [if_pos]; simp only [List.length_append, List.length_cons, List.length_nil]; omega
        have hv3 : gi ((vs'.drop 0).take 3) s_12 = some v := by rw [List.drop_zero, List.take_of_length_le (by omega)]; exact hv
        change CD _ _ _ _ R (Bk b7 64 vs' :: OwL (OwS true 9 1 eS) vs' (ls o s_12 (y ++ pre)) :: Bk b18 3 [vI s_12] :: MkC ds :: Bk b6 64 [.slice none 0 0, .slice none 0 0, .slice none 0 0] :: Bk b0_ 86 [vI a0.most, pv1, pt b3 0] :: rO (sketch_Sketch.op g2) pv1 a0.s :: (F ++ T))
        refine c_blk ?_
        refine cd_st (fun _ h => st_pk 7 [1, 0, 2, 3, 4, 5, 6] (by decide) h) ?_
        refine cd_st (fun _ h => st_foc hv hy' h) ?_
        refine c_any mixed (effs := [5, 6, 8]) (V := []) ?_
        refine stage_ext [(0, vI s_12), (1, vI s_12), (2, pt b7 (0 + s_12.toNat * 1)), (3, v), (4, vS k)] rfl ?_
        refine stage rfl rfl rfl rfl [0, 0, 2, 6, 0, 16, 62, 127, 255] [0, 1, 2, 3, 4] [5] rfl rfl rfl (qc rfl rfl (s_u (o_ld 3 sc3 rfl rfl rfl)) (qc rfl rfl (s_u (o_ld 3 sc3 rfl rfl rfl)) (qc rfl rfl (s_u (o_ixA Try.underlying64 (fun _ => by kernel_rfl) rfl rfl ⟨h0, h3⟩)) (qc rfl rfl (s_u (o_ldA (o := 0) (n := 3) 2 sc23 rfl rfl hv3)) (qc rfl rfl (s_u (o_mv rfl)) qn))))) ?_ (fun h => absurd h (by decide))
        refine ec (eo_w rfl (s_w (o_bsl (en := eS) (sz := 1) (e := 9) (cs := [vS k]) (r := [k]) rfl (fun _ => by kernel_rfl) rfl (by decide) rfl (fun _ => rfl))) ?_) en
        rintro v22 R _ _ ⟨rfl, rfl⟩
        refine stage_st (fun _ h => st_pk 2 [1, 0] (by decide) h) ?_
        refine stage rfl rfl rfl rfl [0, 0, 2, 6, 0, 16, 62, 127, 255] [0, 1, 2, 3] [6] rfl rfl rfl (qc rfl rfl (s_u (o_ld 4 sc3 rfl rfl rfl)) (qc rfl rfl (s_u (o_ld 4 sc3 rfl rfl rfl)) (qc rfl rfl (s_u (o_ixA Try.underlying64 (fun _ => by kernel_rfl) rfl rfl ⟨h0, h3⟩)) (qc rfl rfl (s_u (o_ldA (o := 0) (n := 3) 3 sc23 rfl rfl hv3)) qn)))) ?_ (fun h => absurd h (by decide))
        refine ec (eo_w rfl (s_w (o_ap (sz := 1) (bytes := 16) 0 Try.underlying23 rfl rfl rfl rfl rfl (by decide) (by decide) (fun _ _ _ h => by simp at h; subst h; rfl) (fun _ => rfl) rfl rfl rfl rfl (Nat.succ_pos _) hb)) ?_) en
        rintro v23 R _ _ ⟨rfl, rfl⟩
        refine stage_ext [(7, pt b7 (0 + s_12.toNat * 1))] rfl ?_
        refine stage_st (fun _ h => st_pk 4 [3, 0, 1, 2] (by decide) h) ?_
        refine stage rfl rfl rfl rfl [0, 0, 2, 6, 0, 16, 62, 127, 255] [0, 7] [8] rfl rfl rfl (qc rfl rfl (s_u (o_ld 4 sc3 rfl rfl rfl)) (qc rfl rfl (s_u (o_ixA Try.underlying64 (fun _ => by kernel_rfl) rfl rfl ⟨h0, h3⟩)) qn)) ?_ (fun h => absurd h (by decide))
        refine ec (eo_u rfl (s_u (ou_if (one_o 1 rfl) fun ho0 => o_stA (o := 0) (n := 3) sc23 rfl rfl rfl hv3 ho0)) (Le.refl _) ?_) en
        refine stage rfl rfl rfl rfl [0, 0, 2, 6, 0, 16, 62, 127, 255] [] [] rfl rfl rfl qn en ?_
        intro _
        refine x_blk ?_
        refine ex_st (R' := R) (L' := Bk b7 64 (vs'.set s_12.toNat v23) :: OwL (OwS true 9 1 eS) (vs'.set s_12.toNat v23) (ls o s_12 (y ++ (pre ++ [k]))) :: Bk b18 3 [vI s_12] :: MkC ds :: Bk b6 64 [.slice none 0 0, .slice none 0 0, .slice none 0 0] :: Bk b0_ 86 [vI a0.most, pv1, pt b3 0] :: rO (sketch_Sketch.op g2) pv1 a0.s :: (F ++ T)) (fun w h => ?_) ?_
        · have h1 := st_pk 4 [1, 3, 0] (by decide) h
          have h2 := st_unfocus h1
          have h3 : St _ _ (Bk b7 64 (vs'.set (0 + s_12.toNat) v23) :: OwL (OwS true 9 1 eS) (vs'.set s_12.toNat v23) ((ls o s_12 (y ++ pre)).set s_12.toNat (y ++ pre ++ [k])) :: Bk b18 3 [vI s_12] :: MkC ds :: Bk b6 64 [.slice none 0 0, .slice none 0 0, .slice none 0 0] :: Bk b0_ 86 [vI a0.most, pv1, pt b3 0] :: rO (sketch_Sketch.op g2) pv1 a0.s :: (F ++ T)) w := st_pk 2 [1, 0] (by decide) h2
          rw [Nat.zero_add] at h3
          have e : (ls o s_12 (y ++ pre)).set s_12.toNat (y ++ pre ++ [k]) = ls o s_12 (y ++ (pre ++ [k])) := by simp [ls]
          rw [e] at h3
          exact h3
        · exact x_round rfl (Le.refl _) ⟨rfl, rfl, _, (List.cons_append ..).symm ▸ rfl, vs'.set s_12.toNat v23, by simp [hlen'], rfl⟩
      · obtain ⟨vs', hlen', rfl⟩ := hi
        refine x_blk ?_
        refine x_blk ?_
        refine x_seq ?_
        refine c_reg ?_
        refine r_u (o_bin rfl rfl (bI_add s_12 1)) ?_
        refine r_u (o_mv rfl) ?_
        refine r_nil ?_
        exact x_lpD (i64 (s_12 + 1), ls o s_12 (y ++ kz), vs', Hw.mark D :: ds) ⟨hm20, hlen'⟩ rfl ⟨rfl, rfl, rfl, rfl, trivial⟩ (fun w h => by rw [ho4]; exact mk_add (st_pk 11 [0, 7, 4, 5, 8, 9, 10, 2] (by decide) h))
  · have hm17 := iff_ hm14 h16
    clear hm14
    refine c_exit (x_exit (ks' := _) rfl ?_)
    obtain rfl := Option.some.inj hm17
    obtain ⟨p, q, t, rfl⟩ : ∃ p q t, vs = [p, q, t] := by
      match vs, hlen with
      | [p, q, t], _ => exact ⟨p, q, t, rfl⟩
    refine x_seq ?_
    refine c_seq ?_
    refine c_reg ?_
    refine r_u (o_ldn 1 [p, q, t] ag64 rfl rfl rfl rfl) ?_
    refine rl_st (fun _ h => st_pk 7 [3, 0, 1, 2, 4, 5, 6] (by decide) h) ?_
    refine r_u0 (ou_if (one_l 3 0 rfl rfl) fun h1 => ou_if (one_l 3 1 rfl rfl) fun h2 => ou_if (one_l 3 2 rfl rfl) fun h3 => o_stn ag64 rfl rfl rfl (al_c h1 (al_c h2 (al_c h3 al_n))) rfl rfl rfl) ?_
    refine r_nil ?_
    refine x_seq ?_
    refine c_ret ?_
    refine ex_st (fun _ h => st_pk 7 [1, 0, 2, 3, 4, 5, 6] (by decide) h) ?_
    exact x_m1 rfl (rv_n 0 [p, q, t] ag64 rfl rfl rfl rfl) (fun _ h => st_pk 6 [2, 3, 4, 5] (by decide) h) (Le.refl _) ⟨_, rfl, (p, q, t), rfl, rfl, rfl⟩

def hawthornlaw08_TinyBounds_l0 (a0 : Int) (a1 : List hawthornlaw08_Act) (r10 : Int × Int) : Nat → (Option tiny_Tiny) → Int → Option (Unit ⊕ Bool)
  | 0, _, _ => none
  | k22 + 1, t_17, i_18 => if (decide (i_18 < (a1.length : Int)) && decide (i_18 < 100)) then (gi a1 i_18).bind fun x27 => (hawthornlaw08_few x27.Key).bind fun r29 => Option.bind (if (x27.Kind == 6) then om t_17 (none) fun x79 => (tiny_Tiny_Remove x79 r29).bind fun r89 => some (some r89.2) else Option.bind (if (x27.Kind == 7) then om t_17 (none) fun x107 => (tiny_Tiny_Evict x107).bind fun r117 => some (some r117.2.2) else Option.bind (if (x27.Kind == 4) then some (x27.Kind == 4) else some (x27.Kind == 5)) fun p126 => Option.bind (if p126 then om t_17 (none) fun x139 => (tiny_Tiny_Touch x139 r29).bind fun r149 => some (some r149.2) else om t_17 (none) fun x158 => (tiny_Tiny_Insert x158 r29).bind fun r168 => some (some r168.2)) fun p130 => some p130) fun p98 => some p98) fun p31 => om p31 (none) fun x38 => (tiny_Tiny_Lists x38).bind fun r48 => (gi r48 0).bind fun y52 => (gi r48 1).bind fun y55 => (gi r48 2).bind fun y58 => (tiny_Tiny_Len x38).bind fun r61 => Option.bind (if ((i64 ((i64 ((y52.length : Int) + (y55.length : Int))) + (y58.length : Int))) != r61) then some true else some ((decide ((i64 (1 + (iand a0 31))) < r61) || decide (r10.1 < (y52.length : Int))) || decide (r10.2 < (y58.length : Int)))) fun p63 => if p63 then some (Sum.inr false) else hawthornlaw08_TinyBounds_l0 a0 a1 r10 k22 (some x38) (i64 (i_18 + 1)) else some (Sum.inl ())
def hawthornlaw08_TinyBounds (a0 : Int) (a1 : List hawthornlaw08_Act) : Option Bool :=
  (tiny_New (i64 (1 + (iand a0 31))) 3).bind fun r0 => (hawthornlaw08_awake).bind fun r5 => if (!r5 || (r0.2 != 0)) then some false else lt (hawthornref08_Parts (i64 (1 + (iand a0 31)))) fun r10 => Option.bind (hawthornlaw08_TinyBounds_l0 a0 a1 r10 (((a1.length : Int) - 0).toNat + 1) r0.1 0) fun (p12 : Unit ⊕ Bool) => (match p12 with | Sum.inl q13 => some ((((tiny_Parts (i64 (1 + (iand a0 31)))).Window) == r10.1) && (((tiny_Parts (i64 (1 + (iand a0 31)))).Protected) == r10.2)) | Sum.inr r => some r)
theorem hawthornlaw08_TinyBounds.ok {G R F} (a0 : Int) (v1_ : Value) (a1 : List hawthornlaw08_Act) (h1_ : RoS R v1_ 2 hawthornlaw08_Act.c a1) (r : Bool) (hm : hawthornlaw08_TinyBounds a0 a1 = some r) : CO Try.prog 10 [vI a0, v1_] G R (F)
    (Ret fun u R' L' => u = vB r ∧ R' = R ∧ L' = F) := by
  unfold hawthornlaw08_TinyBounds at hm
  refine co_ofN (N := 120) Try.func10 rfl rfl ?_
  refine c_seq ?_
  refine c_reg ?_
  refine r_u (o_as rfl) ?_
  refine r_nil ?_
  refine x_seq ?_
  refine c_seq ?_
  refine c_reg ?_
  refine r_u (o_mv rfl) ?_
  refine r_u (o_bin rfl rfl (bI_and a0 31)) ?_
  refine r_u (o_bin rfl rfl (bI_add 1 (iand a0 31))) ?_
  refine r_u (o_as rfl) ?_
  refine r_nil ?_
  refine x_seq ?_
  refine c_seq ?_
  refine c_reg ?_
  refine r_u (o_mv rfl) ?_
  obtain ⟨r0, hr0, hm4⟩ := bs hm
  clear hm
  refine r_sw (s_w (o_call ca27 rfl (tiny_New.ok (i64 (1 + (iand a0 31))) 3 r0 hr0))) ?_
  rintro _ R _ _ ⟨⟨pv2, g3⟩, rfl, rfl, rfl⟩
  refine r_u (o_mv rfl) ?_
  refine r_u (o_ext rfl rfl) ?_
  refine r_u (o_ext rfl rfl) ?_
  refine r_u (o_as rfl) ?_
  refine r_u (o_as rfl) ?_
  refine r_nil ?_
  refine x_seq ?_
  refine c_seq ?_
  refine c_seq ?_
  refine c_reg ?_
  obtain ⟨r5, hr5, hm6⟩ := bs hm4
  clear hm4
  refine r_u (o_callq ca28 rfl (hawthornlaw08_awake.ok r5 hr5)) ?_
  refine r_u (o_not rfl) ?_
  refine r_u (o_mv rfl) ?_
  refine r_s (s_gf rfl rfl fun g => o_mv rfl) ?_
  refine r_s (s_gf rfl rfl fun g => o_bin (evg rfl g) rfl (bI_ne r0.2 0)) ?_
  refine r_u (o_or rfl rfl) ?_
  refine r_nil ?_
  refine x_seq ?_
  refine c_if (b := (!r5 || (r0.2 != 0))) rfl (fun h7 => ?_) fun h7 => ?_
  · have hm8 := ift hm6 h7
    clear hm6
    refine c_seq ?_
    refine c_reg ?_
    refine r_u (o_as rfl) ?_
    refine r_nil ?_
    refine x_seq ?_
    refine c_ret ?_
    obtain rfl := Option.some.inj hm8
    refine ex_st (fun _ h => st_pk 1 [] (by decide) h) ?_
    exact x_r1 rfl (rv_t rfl) (Le.refl _) ⟨_, rfl, rfl, rfl, rfl⟩
  · have hm8 := iff_ hm6 h7
    clear hm6
    refine c_skip ?_
    refine x_seq ?_
    refine c_seq ?_
    refine c_reg ?_
    refine r_u (o_mv rfl) ?_
    refine r_u (o_callq ca36 rfl (tiny_Parts.ok (i64 (1 + (iand a0 31))) _ rfl)) ?_
    refine r_new (o_al ze56) fun b9 => ?_
    refine r_u0 (o_stn ag56 rfl rfl rfl rfl rfl rfl rfl) ?_
    refine r_nil ?_
    refine x_seq ?_
    refine c_seq ?_
    refine c_reg ?_
    refine r_u (o_mv rfl) ?_
    obtain ⟨r10, hr10, hm11⟩ := ltx hm8
    clear hm8
    refine r_u (o_callq ca37 rfl (hawthornref08_Parts.ok (i64 (1 + (iand a0 31))) r10 hr10)) ?_
    refine r_u (o_mv rfl) ?_
    refine r_u (o_ext rfl rfl) ?_
    refine r_u (o_ext rfl rfl) ?_
    refine r_u (o_as rfl) ?_
    refine r_u (o_as rfl) ?_
    refine r_nil ?_
    refine x_seq ?_
    refine c_seq ?_
    refine c_seq ?_
    refine c_reg ?_
    refine r_u (o_as rfl) ?_
    refine r_nil ?_
    refine x_seq ?_
    obtain ⟨p12, hp14, hm15⟩ := bs hm11
    refine cd_joinS (p := p12) (Ef := fun q13 => [(8, pt b9 0), (9, vI r10.1), (10, vI r10.2)]) (Lf := fun q13 => Bk b9 56 (api_Parts.c (tiny_Parts (i64 (1 + (iand a0 31))))) :: F) (fun q13 hq => ?_) fun K16 => ?_
    · subst hq
      try dsimp only at hm15
      refine x_seq ?_
      refine c_seq ?_
      refine c_reg ?_
      refine r_u (o_fa fa56_0 rfl) ?_
      refine r_u (o_ld 0 sc3 rfl rfl rfl) ?_
      refine r_u (o_mv rfl) ?_
      refine r_u (o_bin rfl rfl (bI_eq ((tiny_Parts (i64 (1 + (iand a0 31)))).Window) r10.1)) ?_
      refine r_u (o_mv rfl) ?_
      refine r_s (s_gt rfl rfl fun g => o_fa fa56_1 rfl) ?_
      refine r_s (s_gt rfl rfl fun g => o_ld 0 sc3 (evg rfl g) rfl rfl) ?_
      refine r_s (s_gt rfl rfl fun g => o_mv rfl) ?_
      refine r_s (s_gt rfl rfl fun g => o_bin (evg rfl g) (evg rfl g) (bI_eq ((tiny_Parts (i64 (1 + (iand a0 31)))).Protected) r10.2)) ?_
      refine r_u (o_and rfl rfl) ?_
      refine r_u (o_as rfl) ?_
      refine r_nil ?_
      refine x_seq ?_
      refine c_ret ?_
      obtain rfl := Option.some.inj hm15
      refine ex_st (fun _ h => st_pk 1 [] (by decide) h) ?_
      exact x_r1 rfl (rv_t rfl) (Le.refl _) ⟨_, rfl, rfl, rfl, rfl⟩
    · refine c_blk ?_
      refine cd_loopG (M := fun k22 (s : Option tiny_Tiny × Int × (Value × tiny_Tiny.G)) => hawthornlaw08_TinyBounds_l0 a0 a1 r10 k22 s.1 s.2.1 = some p12) (Ef := fun (s : Option tiny_Tiny × Int × (Value × tiny_Tiny.G)) => [(1, v1_), (5, vI (i64 (1 + (iand a0 31)))), (8, pt b9 0), (9, vI r10.1), (10, vI r10.2), (6, s.2.2.1), (11, vI s.2.1)]) (Rf := fun (s : Option tiny_Tiny × Int × (Value × tiny_Tiny.G)) => R) (Lf := fun (s : Option tiny_Tiny × Int × (Value × tiny_Tiny.G)) => Bk b9 56 (api_Parts.c (tiny_Parts (i64 (1 + (iand a0 31))))) :: rO (tiny_Tiny.op s.2.2.2) s.2.2.1 s.1 :: F) (((a1.length : Int) - 0).toNat + 1) (r0.1, 0, (pv2, g3)) hp14 ⟨rfl, rfl, rfl, rfl, rfl, rfl, rfl, trivial⟩ (fun _ h => st_pk 2 [0, 1] (by decide) h) (fun _ h => by cases h) fun k22 s hM24 => ?_
      obtain ⟨t_17, i_18, pv19⟩ := s
      have hm23 : hawthornlaw08_TinyBounds_l0 a0 a1 r10 (k22 + 1) t_17 i_18 = some p12 := hM24
      rw [hawthornlaw08_TinyBounds_l0] at hm23
      obtain ⟨pv20, g21⟩ := pv19
      refine c_seq ?_
      refine c_seq ?_
      refine c_reg ?_
      refine r_u (o_mv rfl) ?_
      refine r_u (o_mv rfl) ?_
      refine r_u (o_lenR Try.underlying54 rfl h1_) ?_
      refine r_u (o_bin rfl rfl (bI_lt i_18 (a1.length : Int))) ?_
      refine r_u (o_mv rfl) ?_
      refine r_s (s_gt rfl rfl fun g => o_mv rfl) ?_
      refine r_s (s_gt rfl rfl fun g => o_bin (evg rfl g) rfl (bI_lt i_18 100)) ?_
      refine r_u (o_and rfl rfl) ?_
      refine r_nil ?_
      refine x_seq ?_
      refine c_if (b := (decide (i_18 < (a1.length : Int)) && decide (i_18 < 100))) rfl (fun h25 => ?_) fun h25 => ?_
      · have hm26 := ift hm23 h25
        clear hm23
        refine c_skip ?_
        refine x_seq ?_
        refine c_seq ?_
        refine c_blk ?_
        refine c_seq ?_
        refine c_reg ?_
        refine r_u (o_mv rfl) ?_
        refine r_u (o_mv rfl) ?_
        obtain ⟨x27, hx27, hm28⟩ := bs hm26
        clear hm26
        obtain ⟨b27, o27, l27, T27, fr27, c27, hv27, hR27, he27, hi27⟩ := RoS.ne h1_ hx27
        refine r_u (o_ix (sz := 2) Try.underlying54 (fun _ => by kernel_rfl) rfl rfl hv27 hi27) ?_
        refine r_u (o_fa fa61_1 rfl) ?_
        refine r_u (o_ldR sc9 rfl hR27 (rok 1 he27 (by decide))) ?_
        obtain ⟨r29, hr29, hm30⟩ := bs hm28
        clear hm28
        refine r_u (o_callq ca29 rfl (hawthornlaw08_few.ok x27.Key r29 hr29)) ?_
        refine r_u (o_as rfl) ?_
        refine r_nil ?_
        refine x_seq ?_
        refine c_seq ?_
        refine c_seq ?_
        refine c_reg ?_
        refine r_u (o_mv rfl) ?_
        refine r_u (o_mv rfl) ?_
        refine r_u (o_ix (sz := 2) Try.underlying54 (fun _ => by kernel_rfl) rfl rfl hv27 hi27) ?_
        refine r_u (o_fa fa61_0 rfl) ?_
        refine r_u (o_ldR sc3 rfl hR27 (rok 0 he27 (by decide))) ?_
        refine r_nil ?_
        refine x_seq ?_
        refine c_blk ?_
        refine c_seq ?_
        refine c_reg ?_
        refine r_u (o_bin rfl rfl (bI_eq x27.Kind 6)) ?_
        refine r_u (o_as rfl) ?_
        refine r_nil ?_
        refine x_seq ?_
        obtain ⟨p31, hp35, hm36⟩ := bs hm30
        refine cd_cut (fun x ks => ∀ (pv32 : Value × tiny_Tiny.G), EX x .normal ks [(1, v1_), (5, vI (i64 (1 + (iand a0 31)))), (8, pt b9 0), (9, vI r10.1), (10, vI r10.2), (11, vI i_18), (6, pv32.1)] R (Bk b9 56 (api_Parts.c (tiny_Parts (i64 (1 + (iand a0 31))))) :: rO (tiny_Tiny.op pv32.2) pv32.1 p31 :: F)) ?_ fun K37 => ?_
        · intro pv32
          obtain ⟨pv33, g34⟩ := pv32
          refine x_blk ?_
          refine x_seq ?_
          refine c_seq ?_
          refine cd_st (fun _ h => st_pk 2 [1, 0] (by decide) h) ?_
          refine cd_opt (fun ho40 => ?_) (fun x38 b39 ho40 => ?_)
          · rintro rfl
            have hm41 := om_n hm36 ho40
            clear hm36
            cases hm41
          · rintro rfl
            have hm41 := om_s hm36 ho40
            clear hm36
            obtain ⟨⟨pv43, g44⟩, ⟨pv46, g47⟩⟩ := g34
            refine cd_st (fun _ h => st_star_o h) ?_
            refine c_reg ?_
            refine r_u (o_mv rfl) ?_
            obtain ⟨r48, hr48, hm50⟩ := bs hm41
            clear hm41
            refine r_sw (s_w (o_call ca40 rfl (tiny_Tiny_Lists.ok b39 x38 (⟨(pv43, g44), (pv46, g47)⟩ : tiny_Tiny.G) r48 hr48))) ?_
            rintro _ R _ _ ⟨v49, rfl, rfl, rfl⟩
            refine r_new (o_al ze64) fun b51 => ?_
            refine r_u0 (ou_if (one_l 1 0 rfl rfl) fun ho0 => ou_if (one_l 1 1 rfl rfl) fun ho1 => ou_if (one_l 1 2 rfl rfl) fun ho2 => o_stn ag64 rfl rfl rfl (al_c ho0 (al_c ho1 (al_c ho2 al_n))) rfl rfl rfl) ?_
            refine r_nil ?_
            refine x_seq ?_
            refine c_seq ?_
            obtain ⟨y52, hy52, hm54⟩ := bs hm50
            clear hm50
            obtain ⟨y55, hy55, hm57⟩ := bs hm54
            clear hm54
            obtain ⟨y58, hy58, hm60⟩ := bs hm57
            clear hm57
            obtain ⟨r61, hr61, hm62⟩ := bs hm60
            clear hm60
            obtain ⟨p63, hp64, hm65⟩ := bs hm62
            refine cd_join (E' := [(1, v1_), (5, vI (i64 (1 + (iand a0 31)))), (6, pt b39 0), (8, pt b9 0), (9, vI r10.1), (10, vI r10.2), (11, vI i_18), (109, vB p63)]) (L' := Bk b39 86 [vI x38.most, pv43, pv46] :: Bk b51 64 [v49.1, v49.2.1, v49.2.2] :: Bk b9 56 (api_Parts.c (tiny_Parts (i64 (1 + (iand a0 31))))) :: rO (sketch_Sketch.op g44) pv43 x38.s :: rO (ring_Rings.op g47) pv46 x38.r :: OwL (OwS true 9 1 eS) [v49.1, v49.2.1, v49.2.2] r48 :: F) ?_ fun K66 => ?_
            · refine x_seq ?_
              refine c_if (b := p63) rfl (fun h67 => ?_) fun h67 => ?_
              · have hm68 := ift hm65 h67
                clear hm65
                refine c_seq ?_
                refine c_reg ?_
                refine r_u (o_as rfl) ?_
                refine r_nil ?_
                refine x_seq ?_
                refine c_ret ?_
                obtain rfl := Option.some.inj hm68
                try dsimp only at hm15
                obtain rfl := Option.some.inj hm15
                refine ex_st (fun _ h => st_pk 6 [] (by decide) h) ?_
                exact x_r1 rfl (rv_t rfl) (Le.refl _) ⟨_, rfl, rfl, rfl, rfl⟩
              · have hm68 := iff_ hm65 h67
                clear hm65
                refine c_skip ?_
                refine x_blk ?_
                refine x_seq ?_
                refine c_reg ?_
                refine r_u (o_mv rfl) ?_
                refine r_u (o_bin rfl rfl (bI_add i_18 1)) ?_
                refine r_u (o_as rfl) ?_
                refine r_nil ?_
                refine ex_st (fun _ h => st_pk 6 [0, 3, 4, 1, 2, 5] (by decide) h) ?_
                refine ex_st (fun _ h => st_some (f := tiny_Tiny.op (⟨(pv43, g44), (pv46, g47)⟩ : tiny_Tiny.G)) (a := x38) (st_star_f (A := tiny_Tiny.fl b39 x38 (⟨(pv43, g44), (pv46, g47)⟩ : tiny_Tiny.G)) h)) ?_
                exact x_lp ((some x38), i64 (i_18 + 1), (pt b39 0, (⟨(pv43, g44), (pv46, g47)⟩ : tiny_Tiny.G))) hm68 ⟨rfl, rfl, rfl, rfl, rfl, rfl, rfl, trivial⟩ (fun _ h => st_pk 4 [2, 0] (by decide) h)
            · refine cd_by ((i64 ((i64 ((y52.length : Int) + (y55.length : Int))) + (y58.length : Int))) != r61) (fun h69 => ?_) fun h69 => ?_
              · have hm70 := ift hp64 h69
                clear hp64
                refine cd_ex (fun w h => st_peek 1 hy52 rfl w h) fun u71 hu71 => ?_
                refine cd_ex (fun w h => st_peek 1 hy55 rfl w h) fun u72 hu72 => ?_
                refine cd_ex (fun w h => st_peek 1 hy58 rfl w h) fun u73 hu73 => ?_
                refine c_any mixed (effs := [12]) (V := []) ?_
                refine stage_st (fun _ h => st_pk 6 [2, 3, 4, 0, 1, 5] (by decide) h) ?_
                refine stage_ext [(0, pt b51 (0 + (0 : Int).toNat * 1)), (1, u71), (2, vI (y52.length : Int)), (3, pt b51 (0 + (1 : Int).toNat * 1)), (4, u72), (5, vI (y55.length : Int)), (6, vI (i64 ((y52.length : Int) + (y55.length : Int)))), (7, pt b51 (0 + (2 : Int).toNat * 1)), (8, u73), (9, vI (y58.length : Int)), (10, vI (i64 ((i64 ((y52.length : Int) + (y55.length : Int))) + (y58.length : Int)))), (11, pt b39 0)] rfl ?_
                refine stage rfl rfl rfl rfl [0, 1, 3, 0, 8, 24, 63, 0, 128, 384, 1023, 0, 2048, 8191, 16383, 32767, 65535, 32767, 262143, 524287, 1048575, 2097151, 4194303, 8388607, 2097151, 33554431, 67108863, 134217727, 268435455, 536870911, 1073741823, 268435455, 4294967295, 8589934591] [0, 1, 2, 3, 4, 5, 6, 7, 8, 9, 10, 11] [12] rfl rfl rfl (qc rfl rfl (s_u (o_ixA (sz := 1) Try.underlying64 (fun _ => by kernel_rfl) rfl rfl (gi_some hu71).1)) (qc rfl rfl (s_u (o_ldA (o := 0) (n := 3) 3 sc23 rfl rfl hu71)) (qc rfl rfl (s_u (o_lenK (kn_in 4 rfl hu71 hy52) Try.underlying23 rfl)) (qc rfl rfl (s_u (o_ixA (sz := 1) Try.underlying64 (fun _ => by kernel_rfl) rfl rfl (gi_some hu72).1)) (qc rfl rfl (s_u (o_ldA (o := 0) (n := 3) 3 sc23 rfl rfl hu72)) (qc rfl rfl (s_u (o_lenK (kn_in 4 rfl hu72 hy55) Try.underlying23 rfl)) (qc rfl rfl (s_u (o_bin rfl rfl (bI_add (y52.length : Int) (y55.length : Int)))) (qc rfl rfl (s_u (o_ixA (sz := 1) Try.underlying64 (fun _ => by kernel_rfl) rfl rfl (gi_some hu73).1)) (qc rfl rfl (s_u (o_ldA (o := 0) (n := 3) 3 sc23 rfl rfl hu73)) (qc rfl rfl (s_u (o_lenK (kn_in 4 rfl hu73 hy58) Try.underlying23 rfl)) (qc rfl rfl (s_u (o_bin rfl rfl (bI_add (i64 ((y52.length : Int) + (y55.length : Int))) (y58.length : Int)))) (qc rfl rfl (s_u (o_mv rfl)) qn)))))))))))) ?_ (fun h => absurd h (by decide))
                refine ec (eo_c rfl (s_w (o_call ca31 rfl (tiny_Tiny_Len.ok b39 x38 (⟨(pv43, g44), (pv46, g47)⟩ : tiny_Tiny.G) r61 hr61))) ?_) en
                refine stage_ext [(13, vB ((i64 ((i64 ((y52.length : Int) + (y55.length : Int))) + (y58.length : Int))) != r61)), (14, vB ((i64 ((i64 ((y52.length : Int) + (y55.length : Int))) + (y58.length : Int))) != r61)), (15, undef), (16, undef), (17, undef), (18, undef), (19, vB true), (20, vB true), (21, undef), (22, undef), (23, undef), (24, undef), (25, undef), (26, vB true), (27, vB true), (28, undef), (29, undef), (30, undef), (31, undef), (32, undef), (33, vB true)] rfl ?_
                refine stage rfl rfl rfl rfl [0, 1, 3, 0, 8, 24, 63, 0, 128, 384, 1023, 0, 2048, 8191, 16383, 32767, 65535, 32767, 262143, 524287, 1048575, 2097151, 4194303, 8388607, 2097151, 33554431, 67108863, 134217727, 268435455, 536870911, 1073741823, 268435455, 4294967295, 8589934591] [0, 1, 2, 3, 4, 5, 6, 7, 8, 9, 10, 13, 14, 15, 16, 17, 18, 19, 20, 21, 22, 23, 24, 25, 26, 27, 28, 29, 30, 31, 32, 33] [] rfl rfl rfl (qc rfl rfl (s_u (o_ixA (sz := 1) Try.underlying64 (fun _ => by kernel_rfl) rfl rfl (gi_some hu71).1)) (qc rfl rfl (s_u (o_ldA (o := 0) (n := 3) 3 sc23 rfl rfl hu71)) (qc rfl rfl (s_u (o_lenK (kn_in 4 rfl hu71 hy52) Try.underlying23 rfl)) (qc rfl rfl (s_u (o_ixA (sz := 1) Try.underlying64 (fun _ => by kernel_rfl) rfl rfl (gi_some hu72).1)) (qc rfl rfl (s_u (o_ldA (o := 0) (n := 3) 3 sc23 rfl rfl hu72)) (qc rfl rfl (s_u (o_lenK (kn_in 4 rfl hu72 hy55) Try.underlying23 rfl)) (qc rfl rfl (s_u (o_bin rfl rfl (bI_add (y52.length : Int) (y55.length : Int)))) (qc rfl rfl (s_u (o_ixA (sz := 1) Try.underlying64 (fun _ => by kernel_rfl) rfl rfl (gi_some hu73).1)) (qc rfl rfl (s_u (o_ldA (o := 0) (n := 3) 3 sc23 rfl rfl hu73)) (qc rfl rfl (s_u (o_lenK (kn_in 4 rfl hu73 hy58) Try.underlying23 rfl)) (qc rfl rfl (s_u (o_bin rfl rfl (bI_add (i64 ((y52.length : Int) + (y55.length : Int))) (y58.length : Int)))) (qc rfl rfl (s_u (o_bin rfl rfl (bI_ne (i64 ((i64 ((y52.length : Int) + (y55.length : Int))) + (y58.length : Int))) r61))) (qc rfl rfl (s_u (o_mv rfl)) (qc rfl rfl (s_n rfl rfl h69) (qc rfl rfl (s_n rfl rfl h69) (qc rfl rfl (s_n rfl rfl h69) (qc rfl rfl (s_n rfl rfl h69) (qc rfl rfl (s_u (o_pt rfl h69 rfl)) (qc rfl rfl (s_u (o_mv rfl)) (qc rfl rfl (s_n rfl rfl rfl) (qc rfl rfl (s_n rfl rfl rfl) (qc rfl rfl (s_n rfl rfl rfl) (qc rfl rfl (s_n rfl rfl rfl) (qc rfl rfl (s_n rfl rfl rfl) (qc rfl rfl (s_u (o_pt rfl rfl rfl)) (qc rfl rfl (s_u (o_mv rfl)) (qc rfl rfl (s_n rfl rfl rfl) (qc rfl rfl (s_n rfl rfl rfl) (qc rfl rfl (s_n rfl rfl rfl) (qc rfl rfl (s_n rfl rfl rfl) (qc rfl rfl (s_n rfl rfl rfl) (qc rfl rfl (s_u (o_pt rfl rfl rfl)) qn)))))))))))))))))))))))))))))))) en ?_
                intro _
                refine ex_sub (E' := [(1, v1_), (5, vI (i64 (1 + (iand a0 31)))), (8, pt b9 0), (9, vI r10.1), (10, vI r10.2), (11, vI i_18), (6, pt b39 0), (109, vB true)]) ⟨rfl, rfl, rfl, rfl, rfl, rfl, rfl, rfl, trivial⟩ ?_
                obtain rfl := Option.some.inj hm70
                exact x_sub K66 ⟨rfl, rfl, rfl, rfl, rfl, rfl, rfl, rfl, trivial⟩ (fun _ h => st_pk 6 [0, 3, 5, 1, 2, 4] (by decide) h)
              · have hm70 := iff_ hp64 h69
                clear hp64
                refine cd_ex (fun w h => st_peek 1 hy52 rfl w h) fun u74 hu74 => ?_
                refine cd_ex (fun w h => st_peek 1 hy55 rfl w h) fun u75 hu75 => ?_
                refine cd_ex (fun w h => st_peek 1 hy58 rfl w h) fun u76 hu76 => ?_
                refine c_any mixed (effs := [12, 16]) (V := []) ?_
                refine stage_st (fun _ h => st_pk 6 [2, 3, 4, 0, 1, 5] (by decide) h) ?_
                refine stage_ext [(0, pt b51 (0 + (0 : Int).toNat * 1)), (1, u74), (2, vI (y52.length : Int)), (3, pt b51 (0 + (1 : Int).toNat * 1)), (4, u75), (5, vI (y55.length : Int)), (6, vI (i64 ((y52.length : Int) + (y55.length : Int)))), (7, pt b51 (0 + (2 : Int).toNat * 1)), (8, u76), (9, vI (y58.length : Int)), (10, vI (i64 ((i64 ((y52.length : Int) + (y55.length : Int))) + (y58.length : Int)))), (11, pt b39 0)] rfl ?_
                refine stage rfl rfl rfl rfl [0, 1, 3, 0, 8, 24, 63, 0, 128, 384, 1023, 0, 2048, 8191, 16383, 32767, 65535, 32767, 262143, 524287, 1048575, 2097151, 4194303, 8388607, 2097151, 33554431, 67108863, 134217727, 268435455, 536870911, 1073741823, 268435455, 4294967295, 8589934591] [0, 1, 2, 3, 4, 5, 6, 7, 8, 9, 10, 11] [12] rfl rfl rfl (qc rfl rfl (s_u (o_ixA (sz := 1) Try.underlying64 (fun _ => by kernel_rfl) rfl rfl (gi_some hu74).1)) (qc rfl rfl (s_u (o_ldA (o := 0) (n := 3) 3 sc23 rfl rfl hu74)) (qc rfl rfl (s_u (o_lenK (kn_in 4 rfl hu74 hy52) Try.underlying23 rfl)) (qc rfl rfl (s_u (o_ixA (sz := 1) Try.underlying64 (fun _ => by kernel_rfl) rfl rfl (gi_some hu75).1)) (qc rfl rfl (s_u (o_ldA (o := 0) (n := 3) 3 sc23 rfl rfl hu75)) (qc rfl rfl (s_u (o_lenK (kn_in 4 rfl hu75 hy55) Try.underlying23 rfl)) (qc rfl rfl (s_u (o_bin rfl rfl (bI_add (y52.length : Int) (y55.length : Int)))) (qc rfl rfl (s_u (o_ixA (sz := 1) Try.underlying64 (fun _ => by kernel_rfl) rfl rfl (gi_some hu76).1)) (qc rfl rfl (s_u (o_ldA (o := 0) (n := 3) 3 sc23 rfl rfl hu76)) (qc rfl rfl (s_u (o_lenK (kn_in 4 rfl hu76 hy58) Try.underlying23 rfl)) (qc rfl rfl (s_u (o_bin rfl rfl (bI_add (i64 ((y52.length : Int) + (y55.length : Int))) (y58.length : Int)))) (qc rfl rfl (s_u (o_mv rfl)) qn)))))))))))) ?_ (fun h => absurd h (by decide))
                refine ec (eo_c rfl (s_w (o_call ca31 rfl (tiny_Tiny_Len.ok b39 x38 (⟨(pv43, g44), (pv46, g47)⟩ : tiny_Tiny.G) r61 hr61))) ?_) en
                refine stage_ext [(13, vB ((i64 ((i64 ((y52.length : Int) + (y55.length : Int))) + (y58.length : Int))) != r61)), (14, vB ((i64 ((i64 ((y52.length : Int) + (y55.length : Int))) + (y58.length : Int))) != r61)), (15, pt b39 0), (17, vI (i64 (1 + (iand a0 31))))] rfl ?_
                refine stage rfl rfl rfl rfl [0, 1, 3, 0, 8, 24, 63, 0, 128, 384, 1023, 0, 2048, 8191, 16383, 32767, 65535, 32767, 262143, 524287, 1048575, 2097151, 4194303, 8388607, 2097151, 33554431, 67108863, 134217727, 268435455, 536870911, 1073741823, 268435455, 4294967295, 8589934591] [0, 1, 2, 3, 4, 5, 6, 7, 8, 9, 10, 13, 14, 15, 17] [16] rfl rfl rfl (qc rfl rfl (s_u (o_ixA (sz := 1) Try.underlying64 (fun _ => by kernel_rfl) rfl rfl (gi_some hu74).1)) (qc rfl rfl (s_u (o_ldA (o := 0) (n := 3) 3 sc23 rfl rfl hu74)) (qc rfl rfl (s_u (o_lenK (kn_in 4 rfl hu74 hy52) Try.underlying23 rfl)) (qc rfl rfl (s_u (o_ixA (sz := 1) Try.underlying64 (fun _ => by kernel_rfl) rfl rfl (gi_some hu75).1)) (qc rfl rfl (s_u (o_ldA (o := 0) (n := 3) 3 sc23 rfl rfl hu75)) (qc rfl rfl (s_u (o_lenK (kn_in 4 rfl hu75 hy55) Try.underlying23 rfl)) (qc rfl rfl (s_u (o_bin rfl rfl (bI_add (y52.length : Int) (y55.length : Int)))) (qc rfl rfl (s_u (o_ixA (sz := 1) Try.underlying64 (fun _ => by kernel_rfl) rfl rfl (gi_some hu76).1)) (qc rfl rfl (s_u (o_ldA (o := 0) (n := 3) 3 sc23 rfl rfl hu76)) (qc rfl rfl (s_u (o_lenK (kn_in 4 rfl hu76 hy58) Try.underlying23 rfl)) (qc rfl rfl (s_u (o_bin rfl rfl (bI_add (i64 ((y52.length : Int) + (y55.length : Int))) (y58.length : Int)))) (qc rfl rfl (s_u (o_bin rfl rfl (bI_ne (i64 ((i64 ((y52.length : Int) + (y55.length : Int))) + (y58.length : Int))) r61))) (qc rfl rfl (s_u (o_mv rfl)) (qc rfl rfl (s_y rfl rfl h69 (o_mv rfl)) (qc rfl rfl (s_y rfl rfl h69 (o_mv rfl)) qn))))))))))))))) ?_ (fun h => absurd h (by decide))
                refine ec (eo_c rfl (s_yw rfl rfl h69 (o_call ca31 rfl (tiny_Tiny_Len.ok b39 x38 (⟨(pv43, g44), (pv46, g47)⟩ : tiny_Tiny.G) r61 hr61))) ?_) en
                refine stage_ext [(18, vB (decide ((i64 (1 + (iand a0 31))) < r61))), (19, vB (decide ((i64 (1 + (iand a0 31))) < r61))), (20, vB (decide ((i64 (1 + (iand a0 31))) < r61))), (21, gv (!(decide ((i64 (1 + (iand a0 31))) < r61))) (pt b51 (0 + (0 : Int).toNat * 1))), (22, gv (!(decide ((i64 (1 + (iand a0 31))) < r61))) u74), (23, gv (!(decide ((i64 (1 + (iand a0 31))) < r61))) (vI (y52.length : Int))), (24, gv (!(decide ((i64 (1 + (iand a0 31))) < r61))) (vI r10.1)), (25, gv (!(decide ((i64 (1 + (iand a0 31))) < r61))) (vB (decide (r10.1 < (y52.length : Int))))), (26, vB (decide ((i64 (1 + (iand a0 31))) < r61) || decide (r10.1 < (y52.length : Int)))), (27, vB (decide ((i64 (1 + (iand a0 31))) < r61) || decide (r10.1 < (y52.length : Int)))), (28, gv (!(decide ((i64 (1 + (iand a0 31))) < r61) || decide (r10.1 < (y52.length : Int)))) (pt b51 (0 + (2 : Int).toNat * 1))), (29, gv (!(decide ((i64 (1 + (iand a0 31))) < r61) || decide (r10.1 < (y52.length : Int)))) u76), (30, gv (!(decide ((i64 (1 + (iand a0 31))) < r61) || decide (r10.1 < (y52.length : Int)))) (vI (y58.length : Int))), (31, gv (!(decide ((i64 (1 + (iand a0 31))) < r61) || decide (r10.1 < (y52.length : Int)))) (vI r10.2)), (32, gv (!(decide ((i64 (1 + (iand a0 31))) < r61) || decide (r10.1 < (y52.length : Int)))) (vB (decide (r10.2 < (y58.length : Int))))), (33, vB ((decide ((i64 (1 + (iand a0 31))) < r61) || decide (r10.1 < (y52.length : Int))) || decide (r10.2 < (y58.length : Int))))] rfl ?_
                refine stage rfl rfl rfl rfl [0, 1, 3, 0, 8, 24, 63, 0, 128, 384, 1023, 0, 2048, 8191, 16383, 32767, 65535, 32767, 262143, 524287, 1048575, 2097151, 4194303, 8388607, 2097151, 33554431, 67108863, 134217727, 268435455, 536870911, 1073741823, 268435455, 4294967295, 8589934591] [17, 18, 19, 20, 21, 22, 23, 24, 25, 26, 27, 28, 29, 30, 31, 32, 33] [] rfl rfl rfl (qc rfl rfl (s_y rfl rfl h69 (o_mv rfl)) (qc rfl rfl (s_y rfl rfl h69 (o_bin rfl rfl (bI_gt r61 (i64 (1 + (iand a0 31)))))) (qc rfl rfl (s_u (o_pf rfl h69 rfl)) (qc rfl rfl (s_u (o_mv rfl)) (qc rfl rfl (s_gf rfl rfl fun g => o_ixA (sz := 1) Try.underlying64 (fun _ => by kernel_rfl) rfl rfl (gi_some hu74).1) (qc rfl rfl (s_gf rfl rfl fun g => o_ldA (o := 0) (n := 3) 3 sc23 (evg rfl g) rfl hu74) (qc rfl rfl (s_gf rfl rfl fun g => o_lenK (kn_in 4 rfl hu74 hy52) Try.underlying23 (evg rfl g)) (qc rfl rfl (s_gf rfl rfl fun g => o_mv rfl) (qc rfl rfl (s_gf rfl rfl fun g => o_bin (evg rfl g) (evg rfl g) (bI_gt (y52.length : Int) r10.1)) (qc rfl rfl (s_u (o_or rfl rfl)) (qc rfl rfl (s_u (o_mv rfl)) (qc rfl rfl (s_gf rfl rfl fun g => o_ixA (sz := 1) Try.underlying64 (fun _ => by kernel_rfl) rfl rfl (gi_some hu76).1) (qc rfl rfl (s_gf rfl rfl fun g => o_ldA (o := 0) (n := 3) 3 sc23 (evg rfl g) rfl hu76) (qc rfl rfl (s_gf rfl rfl fun g => o_lenK (kn_in 4 rfl hu76 hy58) Try.underlying23 (evg rfl g)) (qc rfl rfl (s_gf rfl rfl fun g => o_mv rfl) (qc rfl rfl (s_gf rfl rfl fun g => o_bin (evg rfl g) (evg rfl g) (bI_gt (y58.length : Int) r10.2)) (qc rfl rfl (s_u (o_or rfl rfl)) qn))))))))))))))))) en ?_
                intro _
                refine ex_sub (E' := [(1, v1_), (5, vI (i64 (1 + (iand a0 31)))), (8, pt b9 0), (9, vI r10.1), (10, vI r10.2), (11, vI i_18), (6, pt b39 0), (109, vB ((decide ((i64 (1 + (iand a0 31))) < r61) || decide (r10.1 < (y52.length : Int))) || decide (r10.2 < (y58.length : Int))))]) ⟨rfl, rfl, rfl, rfl, rfl, rfl, rfl, rfl, trivial⟩ ?_
                obtain rfl := Option.some.inj hm70
                exact x_sub K66 ⟨rfl, rfl, rfl, rfl, rfl, rfl, rfl, rfl, trivial⟩ (fun _ h => st_pk 6 [0, 3, 5, 1, 2, 4] (by decide) h)
        · refine c_if (b := (x27.Kind == 6)) rfl (fun h77 => ?_) fun h77 => ?_
          · have hm78 := ift hp35 h77
            clear hp35
            refine cd_st (fun _ h => st_pk 2 [1, 0] (by decide) h) ?_
            refine cd_opt (fun ho81 => ?_) (fun x79 b80 ho81 => ?_)
            · rintro rfl
              have hm82 := om_n hm78 ho81
              clear hm78
              cases hm82
            · rintro rfl
              have hm82 := om_s hm78 ho81
              clear hm78
              obtain ⟨⟨pv84, g85⟩, ⟨pv87, g88⟩⟩ := g21
              refine cd_st (fun _ h => st_star_o h) ?_
              refine c_reg ?_
              refine r_u (o_mv rfl) ?_
              refine r_u (o_mv rfl) ?_
              obtain ⟨r89, hr89, hm97⟩ := bs hm82
              clear hm82
              refine r_sw (s_w (o_call ca38 rfl (tiny_Tiny_Remove.ok b80 x79 (⟨(pv84, g85), (pv87, g88)⟩ : tiny_Tiny.G) r29 r89 hr89))) ?_
              rintro _ R _ _ ⟨⟨⟨pv92, g93⟩, ⟨pv95, g96⟩⟩, rfl, rfl, rfl⟩
              refine r_nil ?_
              refine ex_st (fun _ h => st_some (f := tiny_Tiny.op (⟨(pv92, g93), (pv95, g96)⟩ : tiny_Tiny.G)) (a := r89.2) (st_star_f (A := tiny_Tiny.fl b80 r89.2 (⟨(pv92, g93), (pv95, g96)⟩ : tiny_Tiny.G)) h)) ?_
              obtain rfl := Option.some.inj hm97
              exact x_sub (K37 (pt b80 0, (⟨(pv92, g93), (pv95, g96)⟩ : tiny_Tiny.G))) ⟨rfl, rfl, rfl, rfl, rfl, rfl, rfl, trivial⟩ (fun _ h => st_pk 2 [1, 0] (by decide) h)
          · have hm78 := iff_ hp35 h77
            clear hp35
            refine c_seq ?_
            refine c_reg ?_
            refine r_u (o_bin rfl rfl (bI_eq x27.Kind 7)) ?_
            refine r_u (o_as rfl) ?_
            refine r_nil ?_
            refine x_seq ?_
            obtain ⟨p98, hp102, hm103⟩ := bs hm78
            refine cd_cut (fun x ks => ∀ (pv99 : Value × tiny_Tiny.G), EX x .normal ks [(1, v1_), (5, vI (i64 (1 + (iand a0 31)))), (8, pt b9 0), (9, vI r10.1), (10, vI r10.2), (11, vI i_18), (6, pv99.1)] R (Bk b9 56 (api_Parts.c (tiny_Parts (i64 (1 + (iand a0 31))))) :: rO (tiny_Tiny.op pv99.2) pv99.1 p98 :: F)) ?_ fun K104 => ?_
            · intro pv99
              obtain ⟨pv100, g101⟩ := pv99
              obtain rfl := Option.some.inj hm103
              exact x_sub (K37 (pv100, g101)) ⟨rfl, rfl, rfl, rfl, rfl, rfl, rfl, trivial⟩ (fun _ h => st_pk 2 [0, 1] (by decide) h)
            · refine c_if (b := (x27.Kind == 7)) rfl (fun h105 => ?_) fun h105 => ?_
              · have hm106 := ift hp102 h105
                clear hp102
                refine cd_st (fun _ h => st_pk 2 [1, 0] (by decide) h) ?_
                refine cd_opt (fun ho109 => ?_) (fun x107 b108 ho109 => ?_)
                · rintro rfl
                  have hm110 := om_n hm106 ho109
                  clear hm106
                  cases hm110
                · rintro rfl
                  have hm110 := om_s hm106 ho109
                  clear hm106
                  obtain ⟨⟨pv112, g113⟩, ⟨pv115, g116⟩⟩ := g21
                  refine cd_st (fun _ h => st_star_o h) ?_
                  refine c_reg ?_
                  refine r_u (o_mv rfl) ?_
                  obtain ⟨r117, hr117, hm125⟩ := bs hm110
                  clear hm110
                  refine r_sw (s_w (o_call ca39 rfl (tiny_Tiny_Evict.ok b108 x107 (⟨(pv112, g113), (pv115, g116)⟩ : tiny_Tiny.G) r117 hr117))) ?_
                  rintro _ R _ _ ⟨⟨⟨pv120, g121⟩, ⟨pv123, g124⟩⟩, rfl, rfl, rfl⟩
                  refine r_nil ?_
                  refine ex_st (fun _ h => st_some (f := tiny_Tiny.op (⟨(pv120, g121), (pv123, g124)⟩ : tiny_Tiny.G)) (a := r117.2.2) (st_star_f (A := tiny_Tiny.fl b108 r117.2.2 (⟨(pv120, g121), (pv123, g124)⟩ : tiny_Tiny.G)) h)) ?_
                  obtain rfl := Option.some.inj hm125
                  exact x_sub (K104 (pt b108 0, (⟨(pv120, g121), (pv123, g124)⟩ : tiny_Tiny.G))) ⟨rfl, rfl, rfl, rfl, rfl, rfl, rfl, trivial⟩ (fun _ h => st_pk 2 [1, 0] (by decide) h)
              · have hm106 := iff_ hp102 h105
                clear hp102
                refine c_seq ?_
                refine c_seq ?_
                refine c_reg ?_
                refine r_u (o_bin rfl rfl (bI_eq x27.Kind 4)) ?_
                refine r_u (o_as rfl) ?_
                refine r_nil ?_
                refine x_seq ?_
                obtain ⟨p126, hp127, hm128⟩ := bs hm106
                refine cd_join (E' := [(1, v1_), (5, vI (i64 (1 + (iand a0 31)))), (6, pv20), (8, pt b9 0), (9, vI r10.1), (10, vI r10.2), (11, vI i_18), (12, vS r29), (68, vB p126)]) (L' := Bk b9 56 (api_Parts.c (tiny_Parts (i64 (1 + (iand a0 31))))) :: rO (tiny_Tiny.op g21) pv20 t_17 :: F) ?_ fun K129 => ?_
                · refine x_seq ?_
                  obtain ⟨p130, hp134, hm135⟩ := bs hm128
                  refine cd_cut (fun x ks => ∀ (pv131 : Value × tiny_Tiny.G), EX x .normal ks [(1, v1_), (5, vI (i64 (1 + (iand a0 31)))), (8, pt b9 0), (9, vI r10.1), (10, vI r10.2), (11, vI i_18), (6, pv131.1)] R (Bk b9 56 (api_Parts.c (tiny_Parts (i64 (1 + (iand a0 31))))) :: rO (tiny_Tiny.op pv131.2) pv131.1 p130 :: F)) ?_ fun K136 => ?_
                  · intro pv131
                    obtain ⟨pv132, g133⟩ := pv131
                    obtain rfl := Option.some.inj hm135
                    exact x_sub (K104 (pv132, g133)) ⟨rfl, rfl, rfl, rfl, rfl, rfl, rfl, trivial⟩ (fun _ h => st_pk 2 [0, 1] (by decide) h)
                  · refine c_if (b := p126) rfl (fun h137 => ?_) fun h137 => ?_
                    · have hm138 := ift hp134 h137
                      clear hp134
                      refine cd_st (fun _ h => st_pk 2 [1, 0] (by decide) h) ?_
                      refine cd_opt (fun ho141 => ?_) (fun x139 b140 ho141 => ?_)
                      · rintro rfl
                        have hm142 := om_n hm138 ho141
                        clear hm138
                        cases hm142
                      · rintro rfl
                        have hm142 := om_s hm138 ho141
                        clear hm138
                        obtain ⟨⟨pv144, g145⟩, ⟨pv147, g148⟩⟩ := g21
                        refine cd_st (fun _ h => st_star_o h) ?_
                        refine c_reg ?_
                        refine r_u (o_mv rfl) ?_
                        refine r_u (o_mv rfl) ?_
                        obtain ⟨r149, hr149, hm157⟩ := bs hm142
                        clear hm142
                        refine r_sw (s_w (o_call ca34 rfl (tiny_Tiny_Touch.ok b140 x139 (⟨(pv144, g145), (pv147, g148)⟩ : tiny_Tiny.G) r29 r149 hr149))) ?_
                        rintro _ R _ _ ⟨⟨⟨pv152, g153⟩, ⟨pv155, g156⟩⟩, rfl, rfl, rfl⟩
                        refine r_nil ?_
                        refine ex_st (fun _ h => st_some (f := tiny_Tiny.op (⟨(pv152, g153), (pv155, g156)⟩ : tiny_Tiny.G)) (a := r149.2) (st_star_f (A := tiny_Tiny.fl b140 r149.2 (⟨(pv152, g153), (pv155, g156)⟩ : tiny_Tiny.G)) h)) ?_
                        obtain rfl := Option.some.inj hm157
                        exact x_sub (K136 (pt b140 0, (⟨(pv152, g153), (pv155, g156)⟩ : tiny_Tiny.G))) ⟨rfl, rfl, rfl, rfl, rfl, rfl, rfl, trivial⟩ (fun _ h => st_pk 2 [1, 0] (by decide) h)
                    · have hm138 := iff_ hp134 h137
                      clear hp134
                      refine cd_st (fun _ h => st_pk 2 [1, 0] (by decide) h) ?_
                      refine cd_opt (fun ho160 => ?_) (fun x158 b159 ho160 => ?_)
                      · rintro rfl
                        have hm161 := om_n hm138 ho160
                        clear hm138
                        cases hm161
                      · rintro rfl
                        have hm161 := om_s hm138 ho160
                        clear hm138
                        obtain ⟨⟨pv163, g164⟩, ⟨pv166, g167⟩⟩ := g21
                        refine cd_st (fun _ h => st_star_o h) ?_
                        refine c_reg ?_
                        refine r_u (o_mv rfl) ?_
                        refine r_u (o_mv rfl) ?_
                        obtain ⟨r168, hr168, hm177⟩ := bs hm161
                        clear hm161
                        refine r_sw (s_w (o_call ca30 rfl (tiny_Tiny_Insert.ok b159 x158 (⟨(pv163, g164), (pv166, g167)⟩ : tiny_Tiny.G) r29 r168 hr168))) ?_
                        rintro v169 R _ _ ⟨_, ⟨⟨pv172, g173⟩, ⟨pv175, g176⟩⟩, rfl, rfl, rfl⟩
                        refine r_nil ?_
                        refine ex_st (fun _ h => st_pk 5 [1, 2, 3, 0, 4] (by decide) h) ?_
                        refine ex_st (fun _ h => st_some (f := tiny_Tiny.op (⟨(pv172, g173), (pv175, g176)⟩ : tiny_Tiny.G)) (a := r168.2) (st_star_f (A := tiny_Tiny.fl b159 r168.2 (⟨(pv172, g173), (pv175, g176)⟩ : tiny_Tiny.G)) h)) ?_
                        obtain rfl := Option.some.inj hm177
                        exact x_sub (K136 (pt b159 0, (⟨(pv172, g173), (pv175, g176)⟩ : tiny_Tiny.G))) ⟨rfl, rfl, rfl, rfl, rfl, rfl, rfl, trivial⟩ (fun _ h => st_pk 3 [2, 0] (by decide) h)
                · refine c_if (b := (x27.Kind == 4)) rfl (fun h178 => ?_) fun h178 => ?_
                  · have hm179 := ift hp127 h178
                    clear hp127
                    refine c_skip ?_
                    obtain rfl := Option.some.inj hm179
                    exact x_sub K129 ⟨rfl, rfl, rfl, rfl, rfl, rfl, rfl, rfl, rfl, trivial⟩ (fun _ h => st_pk 2 [0, 1] (by decide) h)
                  · have hm179 := iff_ hp127 h178
                    clear hp127
                    refine c_reg ?_
                    refine r_u (o_bin rfl rfl (bI_eq x27.Kind 5)) ?_
                    refine r_u (o_as rfl) ?_
                    refine r_nil ?_
                    obtain rfl := Option.some.inj hm179
                    exact x_sub K129 ⟨rfl, rfl, rfl, rfl, rfl, rfl, rfl, rfl, rfl, trivial⟩ (fun _ h => st_pk 2 [0, 1] (by decide) h)
      · have hm26 := iff_ hm23 h25
        clear hm23
        refine c_exit (x_exit (ks' := _) rfl ?_)
        obtain rfl := Option.some.inj hm26
        exact x_sub (K16 _ rfl) ⟨rfl, rfl, rfl, trivial⟩ (fun _ h => st_pk 2 [0] (by decide) h)

end Go.Proofs.Ytlahbmoebbflbaa
