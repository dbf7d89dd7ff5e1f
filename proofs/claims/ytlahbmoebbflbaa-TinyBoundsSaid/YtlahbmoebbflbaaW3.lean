import Derived.Test.YtlahbmoebbflbaaW2
import Derived.Test.YtlahbmoebbflbaaFacts
import Derived.Test.YtlahbmoebbflbaaHwX
set_option linter.unusedVariables false
set_option linter.unusedSectionVars false
set_option linter.unusedSimpArgs false
set_option maxRecDepth 100000
set_option maxHeartbeats 8000000
namespace Go.Proofs.Ytlahbmoebbflbaa
open Go Go.Proofs.Ytlahbmoebbflbaa.Hw
def ring_Rings_Front (a0 : ring_Rings) (a1 : Int) (a2 : Str) : Option (Bool × ring_Rings) :=
  if (!(ring_Rings_is a0 a1) || decide (64 < (a2.length : Int))) then some (false, a0) else if (mget a0.at_ a2).isSome then (ring_Rings_cut a0 ((mget a0.at_ a2).getD (0 : Int))).bind fun r8 => (ring_Rings_link r8 ((mget a0.at_ a2).getD (0 : Int)) a1).bind fun r10 => some (true, r10) else if ((a0.free.length : Int) == 0) then some (false, a0) else (gi a0.free (i64 ((a0.free.length : Int) - 1))).bind fun x14 => (sl a0.free 0 (i64 ((a0.free.length : Int) - 1))).bind fun l16 => (gi a0.slots x14).bind fun x18 => (ring_Rings_link (⟨a0.lists, ls a0.slots x14 (⟨a2, x18.list, x18.prev, x18.next⟩ : ring_slot), l16, mput a0.at_ a2 x14, a0.many⟩ : ring_Rings) x14 a1).bind fun r20 => some (true, r20)
theorem ring_Rings_Front.ok {G R F} (b0_ : Nat) (a0 : ring_Rings) (g0_ : ring_Rings.G) (a1 : Int) (a2 : Str) (r : Bool × ring_Rings) (hm : ring_Rings_Front a0 a1 a2 = some r) : CO Try.prog 56 [pt b0_ 0, vI a1, vS a2] G R (Bk b0_ 111 [vI a0.lists, g0_.slots, g0_.free, g0_.at_, g0_.many] :: OwS true 113 4 ring_slot.c g0_.slots a0.slots :: OwS true 3 1 eI g0_.free a0.free :: OwM vS vI g0_.at_ a0.at_ :: OwS true 3 1 eI g0_.many a0.many :: F)
    (Ret fun u R' L' => ∃ (q0 : ring_Rings.G), u = vB r.1 ∧ R' = R ∧ L' = Bk b0_ 111 [vI r.2.lists, q0.slots, q0.free, q0.at_, q0.many] :: OwS true 113 4 ring_slot.c q0.slots r.2.slots :: OwS true 3 1 eI q0.free r.2.free :: OwM vS vI q0.at_ r.2.at_ :: OwS true 3 1 eI q0.many r.2.many :: F) := by
  unfold ring_Rings_Front at hm
  refine co_ofN (N := 80) Try.func56 rfl rfl ?_
  refine c_seq ?_
  refine c_reg ?_
  refine r_u (o_as rfl) ?_
  refine r_nil ?_
  refine x_seq ?_
  refine c_seq ?_
  refine c_seq ?_
  refine c_reg ?_
  refine r_u (o_mv rfl) ?_
  refine r_u (o_mv rfl) ?_
  refine r_c (s_w (o_call ca75 rfl (ring_Rings_is.ok b0_ a0 g0_ a1 _ rfl))) ?_
  refine r_u (o_not rfl) ?_
  refine r_u (o_mv rfl) ?_
  refine r_s (s_gf rfl rfl fun g => o_mv rfl) ?_
  refine r_s (s_gf rfl rfl fun g => o_lenS Try.underlying9 (evg rfl g)) ?_
  refine r_s (s_gf rfl rfl fun g => o_bin (evg rfl g) rfl (bI_gt (a2.length : Int) 64)) ?_
  refine r_u (o_or rfl rfl) ?_
  refine r_nil ?_
  refine x_seq ?_
  refine c_if (b := (!(ring_Rings_is a0 a1) || decide (64 < (a2.length : Int)))) rfl (fun h4 => ?_) fun h4 => ?_
  · have hm5 := ift hm h4
    clear hm
    refine c_seq ?_
    refine c_reg ?_
    refine r_u (o_as rfl) ?_
    refine r_nil ?_
    refine x_seq ?_
    refine c_ret ?_
    obtain rfl := Option.some.inj hm5
    exact x_r1 rfl (rv_t rfl) (Le.refl _) ⟨_, rfl, g0_, rfl, rfl, rfl⟩
  · have hm5 := iff_ hm h4
    clear hm
    refine c_skip ?_
    refine x_seq ?_
    refine c_seq ?_
    refine c_seq ?_
    refine c_reg ?_
    refine r_u (o_mv rfl) ?_
    refine r_u (o_nc rfl) ?_
    refine r_u (o_fa fa111_3 rfl) ?_
    refine r_u (o_ld 0 sc108 rfl rfl rfl) ?_
    refine r_u (o_mv rfl) ?_
    refine r_u (o_lk (kv := vS) (vv := vI) (key := a2) (z0 := (0 : Int)) 3 Try.underlying108 (kok_S Try.underlying9) (fun _ => by kernel_rfl) rfl rfl rfl) ?_
    refine r_u (o_mv rfl) ?_
    refine r_u (o_ext rfl rfl) ?_
    refine r_u (o_ext rfl rfl) ?_
    refine r_u (o_as rfl) ?_
    refine r_u (o_as rfl) ?_
    refine r_nil ?_
    refine x_seq ?_
    refine c_seq ?_
    refine c_reg ?_
    refine r_u (o_mv rfl) ?_
    refine r_nil ?_
    refine x_seq ?_
    refine c_if (b := (mget a0.at_ a2).isSome) rfl (fun h6 => ?_) fun h6 => ?_
    · have hm7 := ift hm5 h6
      clear hm5
      refine c_seq ?_
      refine c_reg ?_
      refine r_u (o_mv rfl) ?_
      refine r_u (o_mv rfl) ?_
      obtain ⟨r8, hr8, hm9⟩ := bs hm7
      clear hm7
      refine r_c (s_w (o_call ca76 rfl (ring_Rings_cut.ok b0_ a0 g0_ ((mget a0.at_ a2).getD (0 : Int)) r8 hr8))) ?_
      refine r_nil ?_
      refine x_seq ?_
      refine c_seq ?_
      refine c_reg ?_
      refine r_u (o_mv rfl) ?_
      refine r_u (o_mv rfl) ?_
      refine r_u (o_mv rfl) ?_
      obtain ⟨r10, hr10, hm11⟩ := bs hm9
      clear hm9
      refine r_c (s_w (o_call ca77 rfl (ring_Rings_link.ok b0_ r8 g0_ ((mget a0.at_ a2).getD (0 : Int)) a1 r10 hr10))) ?_
      refine r_nil ?_
      refine x_seq ?_
      refine c_seq ?_
      refine c_reg ?_
      refine r_u (o_as rfl) ?_
      refine r_nil ?_
      refine x_seq ?_
      refine c_ret ?_
      obtain rfl := Option.some.inj hm11
      exact x_r1 rfl (rv_t rfl) (Le.refl _) ⟨_, rfl, g0_, rfl, rfl, rfl⟩
    · have hm7 := iff_ hm5 h6
      clear hm5
      refine c_skip ?_
      refine x_seq ?_
      refine c_seq ?_
      refine c_reg ?_
      refine r_u (o_mv rfl) ?_
      refine r_u (o_nc rfl) ?_
      refine r_u (o_fa fa111_2 rfl) ?_
      refine r_u (o_ld 0 sc74 rfl rfl rfl) ?_
      refine r_u (o_lenO 2 Try.underlying74 rfl rfl) ?_
      refine r_u (o_as rfl) ?_
      refine r_nil ?_
      refine x_seq ?_
      refine c_seq ?_
      refine c_seq ?_
      refine c_reg ?_
      refine r_u (o_mv rfl) ?_
      refine r_u (o_bin rfl rfl (bI_eq (a0.free.length : Int) 0)) ?_
      refine r_nil ?_
      refine x_seq ?_
      refine c_if (b := ((a0.free.length : Int) == 0)) rfl (fun h12 => ?_) fun h12 => ?_
      · have hm13 := ift hm7 h12
        clear hm7
        refine c_seq ?_
        refine c_reg ?_
        refine r_u (o_as rfl) ?_
        refine r_nil ?_
        refine x_seq ?_
        refine c_ret ?_
        obtain rfl := Option.some.inj hm13
        exact x_r1 rfl (rv_t rfl) (Le.refl _) ⟨_, rfl, g0_, rfl, rfl, rfl⟩
      · have hm13 := iff_ hm7 h12
        clear hm7
        refine c_skip ?_
        refine x_seq ?_
        refine c_seq ?_
        refine c_reg ?_
        refine r_u (o_mv rfl) ?_
        refine r_u (o_nc rfl) ?_
        refine r_u (o_fa fa111_2 rfl) ?_
        refine r_u (o_ld 0 sc74 rfl rfl rfl) ?_
        refine r_u (o_mv rfl) ?_
        refine r_u (o_bin rfl rfl (bI_sub (a0.free.length : Int) 1)) ?_
        obtain ⟨x14, hx14, hm15⟩ := bs hm13
        clear hm13
        refine r_u (o_ixO 2 Try.underlying74 (fun _ => by kernel_rfl) rfl rfl rfl hx14) ?_
        refine r_u (o_ldO0 2 sc3 rfl rfl hx14 rfl rfl) ?_
        refine r_u (o_as rfl) ?_
        refine r_nil ?_
        refine x_seq ?_
        refine c_seq ?_
        refine c_reg ?_
        refine r_u (o_mv rfl) ?_
        refine r_u (o_mv rfl) ?_
        refine r_u (o_nc rfl) ?_
        refine r_u (o_fa fa111_2 rfl) ?_
        refine r_u (o_ld 0 sc74 rfl rfl rfl) ?_
        refine r_u (o_mv rfl) ?_
        refine r_u (o_bin rfl rfl (bI_sub (a0.free.length : Int) 1)) ?_
        obtain ⟨l16, hl16, hm17⟩ := bs hm15
        clear hm15
        refine rl_st (fun _ h => st_pk 5 [2, 0, 1, 3, 4] (by decide) h) ?_
        refine r_u (o_slO Try.underlying74 (fun _ => by kernel_rfl) rfl rfl rfl hl16) ?_
        refine r_u (o_nc rfl) ?_
        refine r_u (o_fa fa111_2 rfl) ?_
        refine rl_st (fun _ h => st_pk 5 [1, 0, 2, 3, 4] (by decide) h) ?_
        refine r_u0 (ou_if (one_o 1 rfl) fun ho0 => o_st sc74 rfl rfl rfl ho0 rfl rfl) ?_
        refine r_nil ?_
        refine x_seq ?_
        refine c_seq ?_
        refine c_reg ?_
        refine r_u (o_mv rfl) ?_
        refine r_u (o_nc rfl) ?_
        refine r_u (o_fa fa111_1 rfl) ?_
        refine r_u (o_ld 0 sc109 rfl rfl rfl) ?_
        refine r_u (o_mv rfl) ?_
        refine r_u (o_mv rfl) ?_
        obtain ⟨x18, hx18, hm19⟩ := bs hm17
        clear hm17
        refine r_u (o_ixO 2 Try.underlying109 (fun _ => by kernel_rfl) rfl rfl rfl hx18) ?_
        refine r_u (o_fa fa113_0 rfl) ?_
        refine rl_st (fun _ h => st_pk 5 [2, 0, 1, 3, 4] (by decide) h) ?_
        refine r_u0 (o_stO0 (c' := (⟨a2, x18.list, x18.prev, x18.next⟩ : ring_slot)) sc9 rfl rfl rfl hx18 rfl rfl rfl) ?_
        refine r_nil ?_
        refine x_seq ?_
        refine c_seq ?_
        refine c_reg ?_
        refine r_u (o_mv rfl) ?_
        refine r_u (o_nc rfl) ?_
        refine r_u (o_fa fa111_3 rfl) ?_
        refine r_u (o_ld 1 sc108 rfl rfl rfl) ?_
        refine r_u (o_mv rfl) ?_
        refine r_u (o_mv rfl) ?_
        refine rl_st (fun _ h => st_pk 5 [3, 0, 1, 2, 4] (by decide) h) ?_
        refine r_u0 (o_mu (kv := vS) (vv := vI) (key := a2) (val := x14) Try.underlying108 (kok_S Try.underlying9) rfl rfl rfl rfl) ?_
        refine r_nil ?_
        refine x_seq ?_
        refine c_seq ?_
        refine c_reg ?_
        refine r_u (o_mv rfl) ?_
        refine r_u (o_mv rfl) ?_
        refine r_u (o_mv rfl) ?_
        obtain ⟨r20, hr20, hm21⟩ := bs hm19
        clear hm19
        refine rl_st (fun _ h => st_pk 5 [2, 1, 3, 0, 4] (by decide) h) ?_
        refine r_c (s_w (o_call ca77 rfl (ring_Rings_link.ok b0_ (⟨a0.lists, ls a0.slots x14 (⟨a2, x18.list, x18.prev, x18.next⟩ : ring_slot), l16, mput a0.at_ a2 x14, a0.many⟩ : ring_Rings) (⟨g0_.slots, (sh g0_.free (i64 ((a0.free.length : Int) - 1)).toNat), g0_.at_, g0_.many⟩ : ring_Rings.G) x14 a1 r20 hr20))) ?_
        refine r_nil ?_
        refine x_seq ?_
        refine c_seq ?_
        refine c_reg ?_
        refine r_u (o_as rfl) ?_
        refine r_nil ?_
        refine x_seq ?_
        refine c_ret ?_
        obtain rfl := Option.some.inj hm21
        exact x_r1 rfl (rv_t rfl) (Le.refl _) ⟨_, rfl, (⟨g0_.slots, (sh g0_.free (i64 ((a0.free.length : Int) - 1)).toNat), g0_.at_, g0_.many⟩ : ring_Rings.G), rfl, rfl, rfl⟩

def ring_Rings_Len (a0 : ring_Rings) (a1 : Int) : Option Int :=
  if !(ring_Rings_is a0 a1) then some 0 else (gi a0.many a1).bind fun x6 => some x6
theorem ring_Rings_Len.ok {G R F} (b0_ : Nat) (a0 : ring_Rings) (g0_ : ring_Rings.G) (a1 : Int) (r : Int) (hm : ring_Rings_Len a0 a1 = some r) : CO Try.prog 57 [pt b0_ 0, vI a1] G R (Bk b0_ 111 [vI a0.lists, g0_.slots, g0_.free, g0_.at_, g0_.many] :: OwS true 113 4 ring_slot.c g0_.slots a0.slots :: OwS true 3 1 eI g0_.free a0.free :: OwM vS vI g0_.at_ a0.at_ :: OwS true 3 1 eI g0_.many a0.many :: F)
    (Ret fun u R' L' => u = vI r ∧ R' = R ∧ L' = Bk b0_ 111 [vI a0.lists, g0_.slots, g0_.free, g0_.at_, g0_.many] :: OwS true 113 4 ring_slot.c g0_.slots a0.slots :: OwS true 3 1 eI g0_.free a0.free :: OwM vS vI g0_.at_ a0.at_ :: OwS true 3 1 eI g0_.many a0.many :: F) := by
  unfold ring_Rings_Len at hm
  refine co_ofN (N := 16) Try.func57 rfl rfl ?_
  refine c_seq ?_
  refine c_reg ?_
  refine r_u (o_as rfl) ?_
  refine r_nil ?_
  refine x_seq ?_
  refine c_seq ?_
  refine c_seq ?_
  refine c_reg ?_
  refine r_u (o_mv rfl) ?_
  refine r_u (o_mv rfl) ?_
  refine r_c (s_w (o_call ca75 rfl (ring_Rings_is.ok b0_ a0 g0_ a1 _ rfl))) ?_
  refine r_u (o_not rfl) ?_
  refine r_nil ?_
  refine x_seq ?_
  refine c_if (b := !(ring_Rings_is a0 a1)) rfl (fun h4 => ?_) fun h4 => ?_
  · have hm5 := ift hm h4
    clear hm
    refine c_seq ?_
    refine c_reg ?_
    refine r_u (o_as rfl) ?_
    refine r_nil ?_
    refine x_seq ?_
    refine c_ret ?_
    obtain rfl := Option.some.inj hm5
    exact x_r1 rfl (rv_t rfl) (Le.refl _) ⟨_, rfl, rfl, rfl, rfl⟩
  · have hm5 := iff_ hm h4
    clear hm
    refine c_skip ?_
    refine x_seq ?_
    refine c_seq ?_
    refine c_reg ?_
    refine r_u (o_mv rfl) ?_
    refine r_u (o_nc rfl) ?_
    refine r_u (o_fa fa111_4 rfl) ?_
    refine r_u (o_ld 0 sc74 rfl rfl rfl) ?_
    refine r_u (o_mv rfl) ?_
    obtain ⟨x6, hx6, hm7⟩ := bs hm5
    clear hm5
    refine r_u (o_ixO 4 Try.underlying74 (fun _ => by kernel_rfl) rfl rfl rfl hx6) ?_
    refine r_u (o_ldO0 4 sc3 rfl rfl hx6 rfl rfl) ?_
    refine r_u (o_as rfl) ?_
    refine r_nil ?_
    refine x_seq ?_
    refine c_ret ?_
    obtain rfl := Option.some.inj hm7
    exact x_r1 rfl (rv_t rfl) (Le.refl _) ⟨_, rfl, rfl, rfl, rfl⟩

def tiny_Parts (a0 : Int) : api_Parts :=
  (⟨(if 1 < (i64 (a0.tdiv 8)) then i64 (a0.tdiv 8) else 1), i64 ((i64 ((i64 (a0 - (if 1 < (i64 (a0.tdiv 8)) then i64 (a0.tdiv 8) else 1))) * 4)).tdiv 5)⟩ : api_Parts)
theorem tiny_Parts.ok {G R F} (a0 : Int) (r : api_Parts) (hm : tiny_Parts a0 = r) : CO Try.prog 36 [vI a0] G R (F)
    (Ret fun u R' L' => u = .agg (api_Parts.c r).toArray ∧ R' = R ∧ L' = F) := by
  unfold tiny_Parts at hm
  refine co_ofN (N := 14) Try.func36 rfl rfl ?_
  refine c_seq ?_
  refine c_reg ?_
  refine r_new (o_al ze56) fun b0 => ?_
  refine r_nil ?_
  refine x_seq ?_
  refine c_seq ?_
  refine c_reg ?_
  refine r_u (o_mv rfl) ?_
  refine r_u (o_bin rfl rfl (bI_quo a0 8 (by decide))) ?_
  refine r_u (o_maxI rfl rfl) ?_
  refine r_u (o_as rfl) ?_
  refine r_nil ?_
  refine x_seq ?_
  refine c_seq ?_
  refine c_reg ?_
  refine r_u (o_mv rfl) ?_
  refine r_u (o_mv rfl) ?_
  refine r_u (o_mv rfl) ?_
  refine r_u (o_bin rfl rfl (bI_sub a0 (if 1 < (i64 (a0.tdiv 8)) then i64 (a0.tdiv 8) else 1))) ?_
  refine r_u (o_bin rfl rfl (bI_mul (i64 (a0 - (if 1 < (i64 (a0.tdiv 8)) then i64 (a0.tdiv 8) else 1))) 4)) ?_
  refine r_u (o_bin rfl rfl (bI_quo (i64 ((i64 (a0 - (if 1 < (i64 (a0.tdiv 8)) then i64 (a0.tdiv 8) else 1))) * 4)) 5 (by decide))) ?_
  refine r_u (o_bld [vI (if 1 < (i64 (a0.tdiv 8)) then i64 (a0.tdiv 8) else 1), vI (i64 ((i64 ((i64 (a0 - (if 1 < (i64 (a0.tdiv 8)) then i64 (a0.tdiv 8) else 1))) * 4)).tdiv 5))] rfl (fun _ => by kernel_rfl)) ?_
  refine r_u0 (o_stn ag56 rfl rfl rfl rfl rfl rfl rfl) ?_
  refine r_nil ?_
  refine x_seq ?_
  refine c_ret ?_
  subst hm
  exact x_d1 rfl (rv_n 0 [vI (if 1 < (i64 (a0.tdiv 8)) then i64 (a0.tdiv 8) else 1), vI (i64 ((i64 ((i64 (a0 - (if 1 < (i64 (a0.tdiv 8)) then i64 (a0.tdiv 8) else 1))) * 4)).tdiv 5))] ag56 rfl rfl rfl rfl) (fun _ h => st_pk 1 [] (by decide) h) (Le.refl _) ⟨_, rfl, rfl, rfl, rfl⟩

def ring_Rings_Back (a0 : ring_Rings) (a1 : Int) : Option (Str × Bool) :=
  (ring_Rings_Len a0 a1).bind fun r4 => if (r4 == 0) then some ([], false) else (gi a0.slots a1).bind fun x8 => (gi a0.slots x8.prev).bind fun x10 => some (x10.key, true)
theorem ring_Rings_Back.ok {G R F} (b0_ : Nat) (a0 : ring_Rings) (g0_ : ring_Rings.G) (a1 : Int) (r : Str × Bool) (hm : ring_Rings_Back a0 a1 = some r) : CO Try.prog 58 [pt b0_ 0, vI a1] G R (Bk b0_ 111 [vI a0.lists, g0_.slots, g0_.free, g0_.at_, g0_.many] :: OwS true 113 4 ring_slot.c g0_.slots a0.slots :: OwS true 3 1 eI g0_.free a0.free :: OwM vS vI g0_.at_ a0.at_ :: OwS true 3 1 eI g0_.many a0.many :: F)
    (Ret fun u R' L' => u = .tuple #[vS r.1, vB r.2] ∧ R' = R ∧ L' = Bk b0_ 111 [vI a0.lists, g0_.slots, g0_.free, g0_.at_, g0_.many] :: OwS true 113 4 ring_slot.c g0_.slots a0.slots :: OwS true 3 1 eI g0_.free a0.free :: OwM vS vI g0_.at_ a0.at_ :: OwS true 3 1 eI g0_.many a0.many :: F) := by
  unfold ring_Rings_Back at hm
  refine co_ofN (N := 25) Try.func58 rfl rfl ?_
  refine c_seq ?_
  refine c_reg ?_
  refine r_u (o_as rfl) ?_
  refine r_u (o_as rfl) ?_
  refine r_nil ?_
  refine x_seq ?_
  refine c_seq ?_
  refine c_seq ?_
  refine c_reg ?_
  refine r_u (o_mv rfl) ?_
  refine r_u (o_mv rfl) ?_
  obtain ⟨r4, hr4, hm5⟩ := bs hm
  clear hm
  refine r_c (s_w (o_call ca57 rfl (ring_Rings_Len.ok b0_ a0 g0_ a1 r4 hr4))) ?_
  refine r_u (o_bin rfl rfl (bI_eq r4 0)) ?_
  refine r_nil ?_
  refine x_seq ?_
  refine c_if (b := (r4 == 0)) rfl (fun h6 => ?_) fun h6 => ?_
  · have hm7 := ift hm5 h6
    clear hm5
    refine c_seq ?_
    refine c_reg ?_
    refine r_u (o_as rfl) ?_
    refine r_u (o_as rfl) ?_
    refine r_nil ?_
    refine x_seq ?_
    refine c_ret ?_
    obtain rfl := Option.some.inj hm7
    exact x_r2 rfl (rv_t rfl) (rv_t rfl) (Le.refl _) ⟨_, rfl, rfl, rfl, rfl⟩
  · have hm7 := iff_ hm5 h6
    clear hm5
    refine c_skip ?_
    refine x_seq ?_
    refine c_seq ?_
    obtain ⟨x8, hx8, hm9⟩ := bs hm7
    clear hm7
    obtain ⟨x10, hx10, hm11⟩ := bs hm9
    clear hm9
    refine c_any mixed (effs := []) (V := []) ?_
    refine stage_ext [(0, pt b0_ 0), (1, pt b0_ 0), (2, pt b0_ 1), (3, g0_.slots), (4, pt b0_ 0), (5, pt b0_ 0), (6, pt b0_ 1), (7, g0_.slots), (8, vI a1), (9, pt (sb g0_.slots) (so g0_.slots + a1.toNat * 4)), (10, pt (sb g0_.slots) (so g0_.slots + a1.toNat * 4 + 2)), (11, vI x8.prev), (12, pt (sb g0_.slots) (so g0_.slots + x8.prev.toNat * 4)), (13, pt (sb g0_.slots) (so g0_.slots + x8.prev.toNat * 4)), (14, vS x10.key), (15, vS x10.key), (16, vB true)] rfl ?_
    refine stage rfl rfl rfl rfl [0, 1, 3, 7, 0, 16, 48, 112, 0, 496, 1008, 2032, 4095, 8191, 16383, 32767, 65535] [0, 1, 2, 3, 4, 5, 6, 7, 8, 9, 10, 11, 12, 13, 14, 15, 16] [] rfl rfl rfl (qc rfl rfl (s_u (o_mv rfl)) (qc rfl rfl (s_u (o_nc rfl)) (qc rfl rfl (s_u (o_fa fa111_1 rfl)) (qc rfl rfl (s_u (o_ld 0 sc109 rfl rfl rfl)) (qc rfl rfl (s_u (o_mv rfl)) (qc rfl rfl (s_u (o_nc rfl)) (qc rfl rfl (s_u (o_fa fa111_1 rfl)) (qc rfl rfl (s_u (o_ld 0 sc109 rfl rfl rfl)) (qc rfl rfl (s_u (o_mv rfl)) (qc rfl rfl (s_u (o_ixO 1 Try.underlying109 (fun _ => by kernel_rfl) rfl rfl rfl hx8)) (qc rfl rfl (s_u (o_fa fa113_2 rfl)) (qc rfl rfl (s_u (o_ldO 1 2 sc3 rfl rfl hx8 rfl rfl)) (qc rfl rfl (s_u (o_ixO 1 Try.underlying109 (fun _ => by kernel_rfl) rfl rfl rfl hx10)) (qc rfl rfl (s_u (o_fa fa113_0 rfl)) (qc rfl rfl (s_u (o_ldO0 1 sc9 rfl rfl hx10 rfl rfl)) (qc rfl rfl (s_u (o_as rfl)) (qc rfl rfl (s_u (o_as rfl)) qn))))))))))))))))) en ?_
    intro _
    refine ex_sub (E' := [(4, vS x10.key), (5, vB true)]) ⟨rfl, rfl, trivial⟩ ?_
    refine x_seq ?_
    refine c_ret ?_
    obtain rfl := Option.some.inj hm11
    exact x_r2 rfl (rv_t rfl) (rv_t rfl) (Le.refl _) ⟨_, rfl, rfl, rfl, rfl⟩

def tiny_Tiny_Touch (a0 : tiny_Tiny) (a1 : Str) : Option (Bool × tiny_Tiny) :=
  (tiny_Tiny_Has a0 a1).bind fun r6 => if !r6 then some (false, a0) else om a0.s (none) fun x10 => (sketch_Sketch_Add x10 a1).bind fun r16 => om a0.r (none) fun x18 => (ring_Rings_In x18 a1).bind fun r26 => if (r26.1 == 0) then (ring_Rings_Front x18 0 a1).bind fun r30 => some (r30.1, (⟨a0.most, (some r16), (some r30.2)⟩ : tiny_Tiny)) else (ring_Rings_Front x18 2 a1).bind fun r37 => (ring_Rings_Len r37.2 2).bind fun r44 => if decide (((tiny_Parts a0.most).Protected) < r44) then (ring_Rings_Back r37.2 2).bind fun r48 => (ring_Rings_Front r37.2 1 r48.1).bind fun r50 => some (true, (⟨a0.most, (some r16), (some r50.2)⟩ : tiny_Tiny)) else some (true, (⟨a0.most, (some r16), (some r37.2)⟩ : tiny_Tiny))
theorem tiny_Tiny_Touch.ok {G R F} (b0_ : Nat) (a0 : tiny_Tiny) (g0_ : tiny_Tiny.G) (a1 : Str) (r : Bool × tiny_Tiny) (hm : tiny_Tiny_Touch a0 a1 = some r) : CO Try.prog 34 [pt b0_ 0, vS a1] G R (Bk b0_ 86 [vI a0.most, g0_.s.1, g0_.r.1] :: rO (sketch_Sketch.op g0_.s.2) g0_.s.1 a0.s :: rO (ring_Rings.op g0_.r.2) g0_.r.1 a0.r :: F)
    (Ret fun u R' L' => ∃ (q0 : tiny_Tiny.G), u = vB r.1 ∧ R' = R ∧ L' = Bk b0_ 86 [vI r.2.most, q0.s.1, q0.r.1] :: rO (sketch_Sketch.op q0.s.2) q0.s.1 r.2.s :: rO (ring_Rings.op q0.r.2) q0.r.1 r.2.r :: F) := by
  obtain ⟨⟨pv1, g2⟩, ⟨pv4, g5⟩⟩ := g0_
  unfold tiny_Tiny_Touch at hm
  refine co_ofN (N := 68) Try.func34 rfl rfl ?_
  refine c_seq ?_
  refine c_reg ?_
  refine r_u (o_as rfl) ?_
  refine r_nil ?_
  refine x_seq ?_
  refine c_seq ?_
  refine c_seq ?_
  refine c_reg ?_
  refine r_u (o_mv rfl) ?_
  refine r_u (o_mv rfl) ?_
  obtain ⟨r6, hr6, hm7⟩ := bs hm
  clear hm
  refine r_c (s_w (o_call ca32 rfl (tiny_Tiny_Has.ok b0_ a0 (⟨(pv1, g2), (pv4, g5)⟩ : tiny_Tiny.G) a1 r6 hr6))) ?_
  refine r_u (o_not rfl) ?_
  refine r_nil ?_
  refine x_seq ?_
  refine c_if (b := !r6) rfl (fun h8 => ?_) fun h8 => ?_
  · have hm9 := ift hm7 h8
    clear hm7
    refine c_seq ?_
    refine c_reg ?_
    refine r_u (o_as rfl) ?_
    refine r_nil ?_
    refine x_seq ?_
    refine c_ret ?_
    obtain rfl := Option.some.inj hm9
    exact x_r1 rfl (rv_t rfl) (Le.refl _) ⟨_, rfl, (⟨(pv1, g2), (pv4, g5)⟩ : tiny_Tiny.G), rfl, rfl, rfl⟩
  · have hm9 := iff_ hm7 h8
    clear hm7
    refine c_skip ?_
    refine x_seq ?_
    refine c_seq ?_
    refine cd_st (fun _ h => st_pk 3 [1, 0, 2] (by decide) h) ?_
    refine cd_opt (fun ho12 => ?_) (fun x10 b11 ho12 => ?_)
    · rintro rfl
      have hm13 := om_n hm9 ho12
      clear hm9
      cases hm13
    · rintro rfl
      have hm13 := om_s hm9 ho12
      clear hm9
      refine cd_st (fun _ h => st_star_o h) ?_
      refine c_reg ?_
      refine r_u (o_mv rfl) ?_
      refine r_u (o_nc rfl) ?_
      refine r_u (o_fa fa86_1 rfl) ?_
      refine r_u (o_ld 3 sc24 rfl rfl rfl) ?_
      refine r_u (o_mv rfl) ?_
      obtain ⟨r16, hr16, hm17⟩ := bs hm13
      clear hm13
      refine r_c (s_w (o_call ca14 rfl (sketch_Sketch_Add.ok b11 x10 g2 a1 r16 hr16))) ?_
      refine r_nil ?_
      refine x_seq ?_
      refine c_seq ?_
      refine cd_st (fun _ h => st_pk 5 [4, 0, 1, 2, 3] (by decide) h) ?_
      refine cd_opt (fun ho20 => ?_) (fun x18 b19 ho20 => ?_)
      · rintro rfl
        have hm21 := om_n hm17 ho20
        clear hm17
        cases hm21
      · rintro rfl
        have hm21 := om_s hm17 ho20
        clear hm17
        refine cd_st (fun _ h => st_star_o h) ?_
        refine c_reg ?_
        refine r_u (o_mv rfl) ?_
        refine r_u (o_nc rfl) ?_
        refine r_u (o_fa fa86_2 rfl) ?_
        refine r_u (o_ld 8 sc82 rfl rfl rfl) ?_
        refine r_u (o_mv rfl) ?_
        obtain ⟨r26, hr26, hm27⟩ := bs hm21
        clear hm21
        refine r_c (s_w (o_call ca61 rfl (ring_Rings_In.ok b19 x18 g5 a1 r26 hr26))) ?_
        refine r_u (o_mv rfl) ?_
        refine r_u (o_ext rfl rfl) ?_
        refine r_u (o_ext rfl rfl) ?_
        refine r_u (o_as rfl) ?_
        refine r_u (o_as rfl) ?_
        refine r_nil ?_
        refine x_seq ?_
        refine c_seq ?_
        refine c_seq ?_
        refine c_reg ?_
        refine r_u (o_mv rfl) ?_
        refine r_u (o_bin rfl rfl (bI_eq r26.1 0)) ?_
        refine r_nil ?_
        refine x_seq ?_
        refine c_if (b := (r26.1 == 0)) rfl (fun h28 => ?_) fun h28 => ?_
        · have hm29 := ift hm27 h28
          clear hm27
          refine c_seq ?_
          refine c_reg ?_
          refine r_u (o_mv rfl) ?_
          refine r_u (o_nc rfl) ?_
          refine r_u (o_fa fa86_2 rfl) ?_
          refine r_u (o_ld 8 sc82 rfl rfl rfl) ?_
          refine r_u (o_mv rfl) ?_
          obtain ⟨r30, hr30, hm36⟩ := bs hm29
          clear hm29
          refine r_sw (s_w (o_call ca56 rfl (ring_Rings_Front.ok b19 x18 g5 0 a1 r30 hr30))) ?_
          rintro _ R _ _ ⟨g31, rfl, rfl, rfl⟩
          refine r_u (o_as rfl) ?_
          refine r_nil ?_
          refine x_seq ?_
          refine c_ret ?_
          refine ex_st (fun _ h => st_pk 9 [5, 6, 7, 0, 1, 2, 3, 4, 8] (by decide) h) ?_
          refine ex_st (fun _ h => st_some (f := sketch_Sketch.op g2) (a := r16) (st_star_f (A := sketch_Sketch.fl b11 r16 g2) h)) ?_
          refine ex_st (fun _ h => st_pk 7 [1, 2, 3, 4, 5, 0, 6] (by decide) h) ?_
          refine ex_st (fun _ h => st_some (f := ring_Rings.op g31) (a := r30.2) (st_star_f (A := ring_Rings.fl b19 r30.2 g31) h)) ?_
          obtain rfl := Option.some.inj hm36
          refine ex_st (fun _ h => st_pk 3 [2, 1, 0] (by decide) h) ?_
          exact x_r1 rfl (rv_t rfl) (Le.refl _) ⟨_, rfl, (⟨(pt b11 0, g2), (pt b19 0, g31)⟩ : tiny_Tiny.G), rfl, rfl, rfl⟩
        · have hm29 := iff_ hm27 h28
          clear hm27
          refine c_skip ?_
          refine x_seq ?_
          refine c_seq ?_
          refine c_reg ?_
          refine r_u (o_mv rfl) ?_
          refine r_u (o_nc rfl) ?_
          refine r_u (o_fa fa86_2 rfl) ?_
          refine r_u (o_ld 8 sc82 rfl rfl rfl) ?_
          refine r_u (o_mv rfl) ?_
          obtain ⟨r37, hr37, hm43⟩ := bs hm29
          clear hm29
          refine r_sw (s_w (o_call ca56 rfl (ring_Rings_Front.ok b19 x18 g5 2 a1 r37 hr37))) ?_
          rintro _ R _ _ ⟨g38, rfl, rfl, rfl⟩
          refine r_nil ?_
          refine x_seq ?_
          refine c_seq ?_
          refine c_seq ?_
          obtain ⟨r44, hr44, hm45⟩ := bs hm43
          clear hm43
          refine c_any mixed (effs := [4]) (V := []) ?_
          refine stage_ext [(0, pt b0_ 0), (1, pt b0_ 0), (2, pt b0_ 2), (3, pt b19 0), (5, pt b0_ 0), (6, pt b0_ 0), (7, pt b0_ 0), (8, vI a0.most)] rfl ?_
          refine stage rfl rfl rfl rfl [0, 1, 3, 7, 15, 0, 32, 96, 224, 511, 1023, 2047] [0, 1, 2, 3, 5, 6, 7, 8] [4] rfl rfl rfl (qc rfl rfl (s_u (o_mv rfl)) (qc rfl rfl (s_u (o_nc rfl)) (qc rfl rfl (s_u (o_fa fa86_2 rfl)) (qc rfl rfl (s_u (o_ld 8 sc82 rfl rfl rfl)) (qc rfl rfl (s_u (o_mv rfl)) (qc rfl rfl (s_u (o_nc rfl)) (qc rfl rfl (s_u (o_fa fa86_0 rfl)) (qc rfl rfl (s_u (o_ld 8 sc3 rfl rfl rfl)) qn)))))))) ?_ (fun h => absurd h (by decide))
          refine ec (eo_c rfl (s_w (o_call ca57 rfl (ring_Rings_Len.ok b19 r37.2 g38 2 r44 hr44))) ?_) en
          refine stage_ext [(9, .agg (api_Parts.c (tiny_Parts a0.most)).toArray), (10, vI ((tiny_Parts a0.most).Protected)), (11, vB (decide (((tiny_Parts a0.most).Protected) < r44)))] rfl ?_
          refine stage rfl rfl rfl rfl [0, 1, 3, 7, 15, 0, 32, 96, 224, 511, 1023, 2047] [5, 6, 7, 8, 9, 10, 11] [] rfl rfl rfl (qc rfl rfl (s_u (o_mv rfl)) (qc rfl rfl (s_u (o_nc rfl)) (qc rfl rfl (s_u (o_fa fa86_0 rfl)) (qc rfl rfl (s_u (o_ld 8 sc3 rfl rfl rfl)) (qc rfl rfl (s_u (o_callq ca36 rfl (tiny_Parts.ok a0.most _ rfl))) (qc rfl rfl (s_u (o_fd (v := vI ((tiny_Parts a0.most).Protected)) rfl (fun _ => by kernel_rfl))) (qc rfl rfl (s_u (o_bin rfl rfl (bI_gt r44 ((tiny_Parts a0.most).Protected)))) qn))))))) en ?_
          intro _
          refine ex_sub (E' := [(0, pt b0_ 0), (53, vB (decide (((tiny_Parts a0.most).Protected) < r44)))]) ⟨rfl, rfl, trivial⟩ ?_
          refine x_seq ?_
          refine c_if (b := decide (((tiny_Parts a0.most).Protected) < r44)) rfl (fun h46 => ?_) fun h46 => ?_
          · have hm47 := ift hm45 h46
            clear hm45
            refine c_seq ?_
            refine c_reg ?_
            refine r_u (o_mv rfl) ?_
            refine r_u (o_nc rfl) ?_
            refine r_u (o_fa fa86_2 rfl) ?_
            refine r_u (o_ld 8 sc82 rfl rfl rfl) ?_
            obtain ⟨r48, hr48, hm49⟩ := bs hm47
            clear hm47
            refine r_c (s_w (o_call ca58 rfl (ring_Rings_Back.ok b19 r37.2 g38 2 r48 hr48))) ?_
            refine r_u (o_mv rfl) ?_
            refine r_u (o_ext rfl rfl) ?_
            refine r_u (o_ext rfl rfl) ?_
            refine r_u (o_as rfl) ?_
            refine r_u (o_as rfl) ?_
            refine r_nil ?_
            refine x_seq ?_
            refine c_reg ?_
            refine r_u (o_mv rfl) ?_
            refine r_u (o_nc rfl) ?_
            refine r_u (o_fa fa86_2 rfl) ?_
            refine r_u (o_ld 8 sc82 rfl rfl rfl) ?_
            refine r_u (o_mv rfl) ?_
            obtain ⟨r50, hr50, hm56⟩ := bs hm49
            clear hm49
            refine r_sw (s_w (o_call ca56 rfl (ring_Rings_Front.ok b19 r37.2 g38 1 r48.1 r50 hr50))) ?_
            rintro _ R _ _ ⟨g51, rfl, rfl, rfl⟩
            refine r_nil ?_
            refine x_seq ?_
            refine c_seq ?_
            refine c_reg ?_
            refine r_u (o_as rfl) ?_
            refine r_nil ?_
            refine x_seq ?_
            refine c_ret ?_
            refine ex_st (fun _ h => st_pk 9 [5, 6, 7, 0, 1, 2, 3, 4, 8] (by decide) h) ?_
            refine ex_st (fun _ h => st_some (f := sketch_Sketch.op g2) (a := r16) (st_star_f (A := sketch_Sketch.fl b11 r16 g2) h)) ?_
            refine ex_st (fun _ h => st_pk 7 [1, 2, 3, 4, 5, 0, 6] (by decide) h) ?_
            refine ex_st (fun _ h => st_some (f := ring_Rings.op g51) (a := r50.2) (st_star_f (A := ring_Rings.fl b19 r50.2 g51) h)) ?_
            obtain rfl := Option.some.inj hm56
            refine ex_st (fun _ h => st_pk 3 [2, 1, 0] (by decide) h) ?_
            exact x_r1 rfl (rv_t rfl) (Le.refl _) ⟨_, rfl, (⟨(pt b11 0, g2), (pt b19 0, g51)⟩ : tiny_Tiny.G), rfl, rfl, rfl⟩
          · have hm47 := iff_ hm45 h46
            clear hm45
            refine c_skip ?_
            refine x_seq ?_
            refine c_seq ?_
            refine c_reg ?_
            refine r_u (o_as rfl) ?_
            refine r_nil ?_
            refine x_seq ?_
            refine c_ret ?_
            refine ex_st (fun _ h => st_pk 9 [5, 6, 7, 0, 1, 2, 3, 4, 8] (by decide) h) ?_
            refine ex_st (fun _ h => st_some (f := sketch_Sketch.op g2) (a := r16) (st_star_f (A := sketch_Sketch.fl b11 r16 g2) h)) ?_
            refine ex_st (fun _ h => st_pk 7 [1, 2, 3, 4, 5, 0, 6] (by decide) h) ?_
            refine ex_st (fun _ h => st_some (f := ring_Rings.op g38) (a := r37.2) (st_star_f (A := ring_Rings.fl b19 r37.2 g38) h)) ?_
            obtain rfl := Option.some.inj hm47
            refine ex_st (fun _ h => st_pk 3 [2, 1, 0] (by decide) h) ?_
            exact x_r1 rfl (rv_t rfl) (Le.refl _) ⟨_, rfl, (⟨(pt b11 0, g2), (pt b19 0, g38)⟩ : tiny_Tiny.G), rfl, rfl, rfl⟩

def tiny_Tiny_Len (a0 : tiny_Tiny) : Option Int :=
  om a0.r (none) fun x6 => (ring_Rings_Len x6 0).bind fun r14 => (ring_Rings_Len x6 1).bind fun r16 => (ring_Rings_Len x6 2).bind fun r18 => some (i64 ((i64 (r14 + r16)) + r18))
theorem tiny_Tiny_Len.ok {G R F} (b0_ : Nat) (a0 : tiny_Tiny) (g0_ : tiny_Tiny.G) (r : Int) (hm : tiny_Tiny_Len a0 = some r) : CO Try.prog 31 [pt b0_ 0] G R (Bk b0_ 86 [vI a0.most, g0_.s.1, g0_.r.1] :: rO (sketch_Sketch.op g0_.s.2) g0_.s.1 a0.s :: rO (ring_Rings.op g0_.r.2) g0_.r.1 a0.r :: F)
    (Ret fun u R' L' => u = vI r ∧ R' = R ∧ L' = Bk b0_ 86 [vI a0.most, g0_.s.1, g0_.r.1] :: rO (sketch_Sketch.op g0_.s.2) g0_.s.1 a0.s :: rO (ring_Rings.op g0_.r.2) g0_.r.1 a0.r :: F) := by
  obtain ⟨⟨pv1, g2⟩, ⟨pv4, g5⟩⟩ := g0_
  unfold tiny_Tiny_Len at hm
  refine co_ofN (N := 22) Try.func31 rfl rfl ?_
  refine c_seq ?_
  refine c_reg ?_
  refine r_u (o_as rfl) ?_
  refine r_nil ?_
  refine x_seq ?_
  refine c_seq ?_
  refine c_seq ?_
  refine c_reg ?_
  refine r_u (o_mv rfl) ?_
  refine r_u (o_bin rfl rfl (bP_eqp Try.underlying47)) ?_
  refine r_nil ?_
  refine x_seq ?_
  refine c_ff rfl ?_
  refine c_skip ?_
  refine x_seq ?_
  refine c_seq ?_
  refine cd_st (fun _ h => st_pk 3 [2, 0, 1] (by decide) h) ?_
  refine cd_opt (fun ho8 => ?_) (fun x6 b7 ho8 => ?_)
  · rintro rfl
    have hm9 := om_n hm ho8
    clear hm
    cases hm9
  · rintro rfl
    have hm9 := om_s hm ho8
    clear hm
    refine cd_st (fun _ h => st_star_o h) ?_
    obtain ⟨r14, hr14, hm15⟩ := bs hm9
    clear hm9
    obtain ⟨r16, hr16, hm17⟩ := bs hm15
    clear hm15
    obtain ⟨r18, hr18, hm19⟩ := bs hm17
    clear hm17
    refine c_any mixed (effs := [4, 9, 15]) (V := []) ?_
    refine stage_ext [(0, pt b0_ 0), (1, pt b0_ 0), (2, pt b0_ 2), (3, pt b7 0), (5, pt b0_ 0), (6, pt b0_ 0), (7, pt b0_ 2), (8, pt b7 0), (11, pt b0_ 0), (12, pt b0_ 0), (13, pt b0_ 2), (14, pt b7 0)] rfl ?_
    refine stage rfl rfl rfl rfl [0, 1, 3, 7, 15, 0, 32, 96, 224, 511, 1023, 0, 2048, 6144, 14336, 31743, 65535, 131071] [0, 1, 2, 3, 5, 6, 7, 8, 11, 12, 13, 14] [4] rfl rfl rfl (qc rfl rfl (s_u (o_mv rfl)) (qc rfl rfl (s_u (o_nc rfl)) (qc rfl rfl (s_u (o_fa fa86_2 rfl)) (qc rfl rfl (s_u (o_ld 5 sc82 rfl rfl rfl)) (qc rfl rfl (s_u (o_mv rfl)) (qc rfl rfl (s_u (o_nc rfl)) (qc rfl rfl (s_u (o_fa fa86_2 rfl)) (qc rfl rfl (s_u (o_ld 5 sc82 rfl rfl rfl)) (qc rfl rfl (s_u (o_mv rfl)) (qc rfl rfl (s_u (o_nc rfl)) (qc rfl rfl (s_u (o_fa fa86_2 rfl)) (qc rfl rfl (s_u (o_ld 5 sc82 rfl rfl rfl)) qn)))))))))))) ?_ (fun h => absurd h (by decide))
    refine ec (eo_c rfl (s_w (o_call ca57 rfl (ring_Rings_Len.ok b7 x6 g5 0 r14 hr14))) ?_) en
    refine stage rfl rfl rfl rfl [0, 1, 3, 7, 15, 0, 32, 96, 224, 511, 1023, 0, 2048, 6144, 14336, 31743, 65535, 131071] [5, 6, 7, 8, 11, 12, 13, 14] [9] rfl rfl rfl (qc rfl rfl (s_u (o_mv rfl)) (qc rfl rfl (s_u (o_nc rfl)) (qc rfl rfl (s_u (o_fa fa86_2 rfl)) (qc rfl rfl (s_u (o_ld 5 sc82 rfl rfl rfl)) (qc rfl rfl (s_u (o_mv rfl)) (qc rfl rfl (s_u (o_nc rfl)) (qc rfl rfl (s_u (o_fa fa86_2 rfl)) (qc rfl rfl (s_u (o_ld 5 sc82 rfl rfl rfl)) qn)))))))) ?_ (fun h => absurd h (by decide))
    refine ec (eo_c rfl (s_w (o_call ca57 rfl (ring_Rings_Len.ok b7 x6 g5 1 r16 hr16))) ?_) en
    refine stage_ext [(10, vI (i64 (r14 + r16)))] rfl ?_
    refine stage rfl rfl rfl rfl [0, 1, 3, 7, 15, 0, 32, 96, 224, 511, 1023, 0, 2048, 6144, 14336, 31743, 65535, 131071] [10, 11, 12, 13, 14] [15] rfl rfl rfl (qc rfl rfl (s_u (o_bin rfl rfl (bI_add r14 r16))) (qc rfl rfl (s_u (o_mv rfl)) (qc rfl rfl (s_u (o_nc rfl)) (qc rfl rfl (s_u (o_fa fa86_2 rfl)) (qc rfl rfl (s_u (o_ld 5 sc82 rfl rfl rfl)) qn))))) ?_ (fun h => absurd h (by decide))
    refine ec (eo_c rfl (s_w (o_call ca57 rfl (ring_Rings_Len.ok b7 x6 g5 2 r18 hr18))) ?_) en
    refine stage_ext [(16, vI (i64 ((i64 (r14 + r16)) + r18))), (17, vI (i64 ((i64 (r14 + r16)) + r18)))] rfl ?_
    refine stage rfl rfl rfl rfl [0, 1, 3, 7, 15, 0, 32, 96, 224, 511, 1023, 0, 2048, 6144, 14336, 31743, 65535, 131071] [10, 16, 17] [] rfl rfl rfl (qc rfl rfl (s_u (o_bin rfl rfl (bI_add r14 r16))) (qc rfl rfl (s_u (o_bin rfl rfl (bI_add (i64 (r14 + r16)) r18))) (qc rfl rfl (s_u (o_as rfl)) qn))) en ?_
    intro _
    refine ex_sub (E' := [(2, vI (i64 ((i64 (r14 + r16)) + r18)))]) ⟨rfl, trivial⟩ ?_
    refine x_seq ?_
    refine c_ret ?_
    refine ex_st (fun _ h => st_some (f := ring_Rings.op g5) (a := x6) (st_star_f (A := ring_Rings.fl b7 x6 g5) h)) ?_
    refine ex_st (fun _ h => st_back ho8 h) ?_
    obtain rfl := Option.some.inj hm19
    refine ex_st (fun _ h => st_pk 3 [1, 2, 0] (by decide) h) ?_
    exact x_r1 rfl (rv_t rfl) (Le.refl _) ⟨_, rfl, rfl, rfl, rfl⟩

def tiny_Tiny_last (a0 : tiny_Tiny) : Option (Str × Bool) :=
  om a0.r (none) fun x6 => (ring_Rings_Back x6 1).bind fun r14 => if r14.2 then some (r14.1, true) else (ring_Rings_Back x6 2).bind fun r18 => some (r18.1, r18.2)
theorem tiny_Tiny_last.ok {G R F} (b0_ : Nat) (a0 : tiny_Tiny) (g0_ : tiny_Tiny.G) (r : Str × Bool) (hm : tiny_Tiny_last a0 = some r) : CO Try.prog 59 [pt b0_ 0] G R (Bk b0_ 86 [vI a0.most, g0_.s.1, g0_.r.1] :: rO (sketch_Sketch.op g0_.s.2) g0_.s.1 a0.s :: rO (ring_Rings.op g0_.r.2) g0_.r.1 a0.r :: F)
    (Ret fun u R' L' => u = .tuple #[vS r.1, vB r.2] ∧ R' = R ∧ L' = Bk b0_ 86 [vI a0.most, g0_.s.1, g0_.r.1] :: rO (sketch_Sketch.op g0_.s.2) g0_.s.1 a0.s :: rO (ring_Rings.op g0_.r.2) g0_.r.1 a0.r :: F) := by
  obtain ⟨⟨pv1, g2⟩, ⟨pv4, g5⟩⟩ := g0_
  unfold tiny_Tiny_last at hm
  refine co_ofN (N := 23) Try.func59 rfl rfl ?_
  refine c_seq ?_
  refine c_reg ?_
  refine r_u (o_as rfl) ?_
  refine r_u (o_as rfl) ?_
  refine r_nil ?_
  refine x_seq ?_
  refine c_seq ?_
  refine c_seq ?_
  refine cd_st (fun _ h => st_pk 3 [2, 0, 1] (by decide) h) ?_
  refine cd_opt (fun ho8 => ?_) (fun x6 b7 ho8 => ?_)
  · rintro rfl
    have hm9 := om_n hm ho8
    clear hm
    cases hm9
  · rintro rfl
    have hm9 := om_s hm ho8
    clear hm
    refine cd_st (fun _ h => st_star_o h) ?_
    refine c_reg ?_
    refine r_u (o_mv rfl) ?_
    refine r_u (o_nc rfl) ?_
    refine r_u (o_fa fa86_2 rfl) ?_
    refine r_u (o_ld 5 sc82 rfl rfl rfl) ?_
    obtain ⟨r14, hr14, hm15⟩ := bs hm9
    clear hm9
    refine r_c (s_w (o_call ca58 rfl (ring_Rings_Back.ok b7 x6 g5 1 r14 hr14))) ?_
    refine r_u (o_mv rfl) ?_
    refine r_u (o_ext rfl rfl) ?_
    refine r_u (o_ext rfl rfl) ?_
    refine r_u (o_as rfl) ?_
    refine r_u (o_as rfl) ?_
    refine r_nil ?_
    refine x_seq ?_
    refine c_seq ?_
    refine c_reg ?_
    refine r_u (o_mv rfl) ?_
    refine r_nil ?_
    refine x_seq ?_
    refine c_if (b := r14.2) rfl (fun h16 => ?_) fun h16 => ?_
    · have hm17 := ift hm15 h16
      clear hm15
      refine c_seq ?_
      refine c_reg ?_
      refine r_u (o_mv rfl) ?_
      refine r_u (o_as rfl) ?_
      refine r_u (o_as rfl) ?_
      refine r_nil ?_
      refine x_seq ?_
      refine c_ret ?_
      refine ex_st (fun _ h => st_some (f := ring_Rings.op g5) (a := x6) (st_star_f (A := ring_Rings.fl b7 x6 g5) h)) ?_
      refine ex_st (fun _ h => st_back ho8 h) ?_
      obtain rfl := Option.some.inj hm17
      refine ex_st (fun _ h => st_pk 3 [1, 2, 0] (by decide) h) ?_
      exact x_r2 rfl (rv_t rfl) (rv_t rfl) (Le.refl _) ⟨_, rfl, rfl, rfl, rfl⟩
    · have hm17 := iff_ hm15 h16
      clear hm15
      refine c_skip ?_
      refine x_seq ?_
      refine c_seq ?_
      refine c_reg ?_
      refine r_u (o_mv rfl) ?_
      refine r_u (o_nc rfl) ?_
      refine r_u (o_fa fa86_2 rfl) ?_
      refine r_u (o_ld 5 sc82 rfl rfl rfl) ?_
      obtain ⟨r18, hr18, hm19⟩ := bs hm17
      clear hm17
      refine r_c (s_w (o_call ca58 rfl (ring_Rings_Back.ok b7 x6 g5 2 r18 hr18))) ?_
      refine r_u (o_ext rfl rfl) ?_
      refine r_u (o_ext rfl rfl) ?_
      refine r_u (o_as rfl) ?_
      refine r_u (o_as rfl) ?_
      refine r_nil ?_
      refine x_seq ?_
      refine c_ret ?_
      refine ex_st (fun _ h => st_some (f := ring_Rings.op g5) (a := x6) (st_star_f (A := ring_Rings.fl b7 x6 g5) h)) ?_
      refine ex_st (fun _ h => st_back ho8 h) ?_
      obtain rfl := Option.some.inj hm19
      refine ex_st (fun _ h => st_pk 3 [1, 2, 0] (by decide) h) ?_
      exact x_r2 rfl (rv_t rfl) (rv_t rfl) (Le.refl _) ⟨_, rfl, rfl, rfl, rfl⟩

def ring_Rings_Drop (a0 : ring_Rings) (a1 : Str) : Option (Bool × ring_Rings) :=
  if (mget a0.at_ a1).isSome then (ring_Rings_cut a0 ((mget a0.at_ a1).getD (0 : Int))).bind fun r6 => (gi r6.slots ((mget a0.at_ a1).getD (0 : Int))).bind fun x8 => (apd 8 r6.free [((mget a0.at_ a1).getD (0 : Int))]).bind fun l12 => some ((mget a0.at_ a1).isSome, (⟨r6.lists, ls r6.slots ((mget a0.at_ a1).getD (0 : Int)) (⟨[], 0, 0, 0⟩ : ring_slot), l12, mdel r6.at_ a1, r6.many⟩ : ring_Rings)) else some ((mget a0.at_ a1).isSome, a0)
theorem ring_Rings_Drop.ok {G R F} (b0_ : Nat) (a0 : ring_Rings) (g0_ : ring_Rings.G) (a1 : Str) (r : Bool × ring_Rings) (hm : ring_Rings_Drop a0 a1 = some r) : CO Try.prog 60 [pt b0_ 0, vS a1] G R (Bk b0_ 111 [vI a0.lists, g0_.slots, g0_.free, g0_.at_, g0_.many] :: OwS true 113 4 ring_slot.c g0_.slots a0.slots :: OwS true 3 1 eI g0_.free a0.free :: OwM vS vI g0_.at_ a0.at_ :: OwS true 3 1 eI g0_.many a0.many :: F)
    (Ret fun u R' L' => ∃ (q0 : ring_Rings.G), u = vB r.1 ∧ R' = R ∧ L' = Bk b0_ 111 [vI r.2.lists, q0.slots, q0.free, q0.at_, q0.many] :: OwS true 113 4 ring_slot.c q0.slots r.2.slots :: OwS true 3 1 eI q0.free r.2.free :: OwM vS vI q0.at_ r.2.at_ :: OwS true 3 1 eI q0.many r.2.many :: F) := by
  unfold ring_Rings_Drop at hm
  refine co_ofN (N := 45) Try.func60 rfl rfl ?_
  refine c_seq ?_
  refine c_reg ?_
  refine r_u (o_as rfl) ?_
  refine r_nil ?_
  refine x_seq ?_
  refine c_seq ?_
  refine c_seq ?_
  refine c_reg ?_
  refine r_u (o_mv rfl) ?_
  refine r_u (o_bin rfl rfl (bP_eqp Try.underlying82)) ?_
  refine r_nil ?_
  refine x_seq ?_
  refine c_ff rfl ?_
  refine c_skip ?_
  refine x_seq ?_
  refine c_seq ?_
  refine c_reg ?_
  refine r_u (o_mv rfl) ?_
  refine r_u (o_nc rfl) ?_
  refine r_u (o_fa fa111_3 rfl) ?_
  refine r_u (o_ld 0 sc108 rfl rfl rfl) ?_
  refine r_u (o_mv rfl) ?_
  refine r_u (o_lk (kv := vS) (vv := vI) (key := a1) (z0 := (0 : Int)) 3 Try.underlying108 (kok_S Try.underlying9) (fun _ => by kernel_rfl) rfl rfl rfl) ?_
  refine r_u (o_mv rfl) ?_
  refine r_u (o_ext rfl rfl) ?_
  refine r_u (o_ext rfl rfl) ?_
  refine r_u (o_as rfl) ?_
  refine r_u (o_as rfl) ?_
  refine r_nil ?_
  refine x_seq ?_
  refine c_seq ?_
  refine c_seq ?_
  refine c_reg ?_
  refine r_u (o_mv rfl) ?_
  refine r_nil ?_
  refine x_seq ?_
  refine c_if (b := (mget a0.at_ a1).isSome) rfl (fun h4 => ?_) fun h4 => ?_
  · have hm5 := ift hm h4
    clear hm
    refine c_seq ?_
    refine c_reg ?_
    refine r_u (o_mv rfl) ?_
    refine r_u (o_mv rfl) ?_
    obtain ⟨r6, hr6, hm7⟩ := bs hm5
    clear hm5
    refine r_c (s_w (o_call ca76 rfl (ring_Rings_cut.ok b0_ a0 g0_ ((mget a0.at_ a1).getD (0 : Int)) r6 hr6))) ?_
    refine r_nil ?_
    refine x_seq ?_
    refine c_seq ?_
    refine c_reg ?_
    refine r_u (o_mv rfl) ?_
    refine r_u (o_nc rfl) ?_
    refine r_u (o_fa fa111_3 rfl) ?_
    refine r_u (o_ld 0 sc108 rfl rfl rfl) ?_
    refine r_u (o_mv rfl) ?_
    refine rl_st (fun _ h => st_pk 5 [3, 0, 1, 2, 4] (by decide) h) ?_
    refine r_u0 (o_del (kv := vS) (vv := vI) (key := a1) Try.underlying108 (kok_S Try.underlying9) rfl rfl rfl rfl) ?_
    refine r_nil ?_
    refine x_seq ?_
    refine c_seq ?_
    refine c_reg ?_
    refine r_u (o_mv rfl) ?_
    refine r_u (o_nc rfl) ?_
    refine r_u (o_fa fa111_1 rfl) ?_
    refine r_u (o_ld 1 sc109 rfl rfl rfl) ?_
    refine r_u (o_mv rfl) ?_
    refine r_u (o_bld [vS [], vI 0, vI 0, vI 0] rfl (fun _ => by kernel_rfl)) ?_
    obtain ⟨x8, hx8, hm9⟩ := bs hm7
    clear hm7
    refine r_u (o_ixO 2 Try.underlying109 (fun _ => by kernel_rfl) rfl rfl rfl hx8) ?_
    refine rl_st (fun _ h => st_pk 5 [2, 0, 1, 3, 4] (by decide) h) ?_
    refine r_u0 (o_stnO (c' := (⟨[], 0, 0, 0⟩ : ring_slot)) ag113 rfl rfl rfl hx8 rfl rfl rfl) ?_
    refine r_nil ?_
    refine x_seq ?_
    refine c_reg ?_
    refine r_u (o_mv rfl) ?_
    refine r_u (o_mv rfl) ?_
    refine r_u (o_nc rfl) ?_
    refine r_u (o_fa fa111_2 rfl) ?_
    refine r_u (o_ld 2 sc74 rfl rfl rfl) ?_
    refine r_u (o_mv rfl) ?_
    refine r_sw (s_w (o_bsl (en := eI) (sz := 1) (e := 3) (cs := [vI ((mget a0.at_ a1).getD (0 : Int))]) (r := [((mget a0.at_ a1).getD (0 : Int))]) rfl (fun _ => by kernel_rfl) rfl (by decide) rfl (fun _ => rfl))) ?_
    rintro v10 R _ _ ⟨rfl, rfl⟩
    obtain ⟨l12, hl12, hm13⟩ := bs hm9
    clear hm9
    refine rl_st (fun _ h => st_pk 6 [4, 0, 1, 2, 3, 5] (by decide) h) ?_
    refine r_sw (s_w (o_ap (sz := 1) (bytes := 8) 0 Try.underlying74 rfl rfl rfl rfl rfl (by decide) (by decide) (fun _ _ _ h => by simp at h; subst h; rfl) (fun _ => rfl) rfl rfl rfl rfl (Nat.succ_pos _) hl12)) ?_
    rintro v11 R _ _ ⟨rfl, rfl⟩
    refine r_u (o_nc rfl) ?_
    refine r_u (o_fa fa111_2 rfl) ?_
    refine rl_st (fun _ h => st_pk 6 [4, 0, 1, 2, 3, 5] (by decide) h) ?_
    refine r_u0 (ou_if (one_o 1 rfl) fun ho0 => o_st sc74 rfl rfl rfl ho0 rfl rfl) ?_
    refine r_nil ?_
    refine x_seq ?_
    refine c_seq ?_
    refine c_reg ?_
    refine r_u (o_mv rfl) ?_
    refine r_u (o_as rfl) ?_
    refine r_nil ?_
    refine x_seq ?_
    refine c_ret ?_
    obtain rfl := Option.some.inj hm13
    refine ex_st (fun _ h => st_pk 6 [0, 3, 1, 4, 5] (by decide) h) ?_
    exact x_r1 rfl (rv_t rfl) (Le.refl _) ⟨_, rfl, (⟨g0_.slots, v11, g0_.at_, g0_.many⟩ : ring_Rings.G), rfl, rfl, rfl⟩
  · have hm5 := iff_ hm h4
    clear hm
    refine c_skip ?_
    refine x_seq ?_
    refine c_seq ?_
    refine c_reg ?_
    refine r_u (o_mv rfl) ?_
    refine r_u (o_as rfl) ?_
    refine r_nil ?_
    refine x_seq ?_
    refine c_ret ?_
    obtain rfl := Option.some.inj hm5
    exact x_r1 rfl (rv_t rfl) (Le.refl _) ⟨_, rfl, g0_, rfl, rfl, rfl⟩

def tiny_Tiny_Insert (a0 : tiny_Tiny) (a1 : Str) : Option (List Str × tiny_Tiny) :=
  Option.bind (if decide (64 < (a1.length : Int)) then some (true, a0) else (tiny_Tiny_Touch a0 a1).bind fun r98 => some (r98.1, r98.2)) fun p6 => if p6.1 then some ([], p6.2) else om p6.2.s (none) fun x19 => (sketch_Sketch_Add x19 a1).bind fun r25 => om p6.2.r (none) fun x27 => (ring_Rings_Front x27 0 a1).bind fun r35 => (ring_Rings_Len r35.2 0).bind fun r42 => if decide (r42 ≤ ((tiny_Parts p6.2.most).Window)) then some ([], (⟨p6.2.most, (some r25), (some r35.2)⟩ : tiny_Tiny)) else (ring_Rings_Back r35.2 0).bind fun r46 => (tiny_Tiny_Len (⟨p6.2.most, (some r25), (some r35.2)⟩ : tiny_Tiny)).bind fun r48 => if decide (r48 ≤ p6.2.most) then (ring_Rings_Front r35.2 1 r46.1).bind fun r52 => some ([], (⟨p6.2.most, (some r25), (some r52.2)⟩ : tiny_Tiny)) else (tiny_Tiny_last (⟨p6.2.most, (some r25), (some r35.2)⟩ : tiny_Tiny)).bind fun r59 => Option.bind (if r59.2 then (sketch_Sketch_Seen r25 r46.1).bind fun r92 => (sketch_Sketch_Seen r25 r59.1).bind fun r94 => some (decide (r94 < r92)) else some false) fun p61 => if p61 then (ring_Rings_Drop r35.2 r59.1).bind fun r67 => (ring_Rings_Front r67.2 1 r46.1).bind fun r74 => some ([r59.1], (⟨p6.2.most, (some r25), (some r74.2)⟩ : tiny_Tiny)) else (ring_Rings_Drop r35.2 r46.1).bind fun r82 => some ([r46.1], (⟨p6.2.most, (some r25), (some r82.2)⟩ : tiny_Tiny))
theorem tiny_Tiny_Insert.ok {G R F} (b0_ : Nat) (a0 : tiny_Tiny) (g0_ : tiny_Tiny.G) (a1 : Str) (r : List Str × tiny_Tiny) (hm : tiny_Tiny_Insert a0 a1 = some r) : CO Try.prog 30 [pt b0_ 0, vS a1] G R (Bk b0_ 86 [vI a0.most, g0_.s.1, g0_.r.1] :: rO (sketch_Sketch.op g0_.s.2) g0_.s.1 a0.s :: rO (ring_Rings.op g0_.r.2) g0_.r.1 a0.r :: F)
    (Ret fun u R' L' => ∃ (p0 : Value) (q0 : tiny_Tiny.G), u = p0 ∧ R' = R ∧ L' = OwS true 9 1 eS p0 r.1 :: Bk b0_ 86 [vI r.2.most, q0.s.1, q0.r.1] :: rO (sketch_Sketch.op q0.s.2) q0.s.1 r.2.s :: rO (ring_Rings.op q0.r.2) q0.r.1 r.2.r :: F) := by
  obtain ⟨⟨pv1, g2⟩, ⟨pv4, g5⟩⟩ := g0_
  unfold tiny_Tiny_Insert at hm
  refine co_ofN (N := 109) Try.func30 rfl rfl ?_
  refine c_seq ?_
  refine c_reg ?_
  refine r_u (o_as rfl) ?_
  refine r_nil ?_
  refine x_seq ?_
  refine c_seq ?_
  refine c_seq ?_
  obtain ⟨p6, hp14, hm15⟩ := bs hm
  refine cd_cut (fun x ks => ∀ (g7 : tiny_Tiny.G), EX x .normal ks [(0, pt b0_ 0), (1, vS a1), (20, vB p6.1)] R (Bk b0_ 86 [vI p6.2.most, g7.s.1, g7.r.1] :: rO (sketch_Sketch.op g7.s.2) g7.s.1 p6.2.s :: rO (ring_Rings.op g7.r.2) g7.r.1 p6.2.r :: F)) ?_ fun K16 => ?_
  · intro g7
    obtain ⟨⟨pv9, g10⟩, ⟨pv12, g13⟩⟩ := g7
    refine x_seq ?_
    refine c_if (b := p6.1) rfl (fun h17 => ?_) fun h17 => ?_
    · have hm18 := ift hm15 h17
      clear hm15
      refine c_seq ?_
      refine c_reg ?_
      refine r_u (o_as rfl) ?_
      refine r_nil ?_
      refine x_seq ?_
      refine c_ret ?_
      refine ex_st (fun _ h => st_nil (ap := true) (T := 9) (sz := 1) (en := eS) h) ?_
      obtain rfl := Option.some.inj hm18
      exact x_r1 rfl (rv_t rfl) (Le.refl _) ⟨_, rfl, (.slice none 0 0), (⟨(pv9, g10), (pv12, g13)⟩ : tiny_Tiny.G), rfl, rfl, rfl⟩
    · have hm18 := iff_ hm15 h17
      clear hm15
      refine c_skip ?_
      refine x_seq ?_
      refine c_seq ?_
      refine cd_st (fun _ h => st_pk 3 [1, 0, 2] (by decide) h) ?_
      refine cd_opt (fun ho21 => ?_) (fun x19 b20 ho21 => ?_)
      · rintro rfl
        have hm22 := om_n hm18 ho21
        clear hm18
        cases hm22
      · rintro rfl
        have hm22 := om_s hm18 ho21
        clear hm18
        refine cd_st (fun _ h => st_star_o h) ?_
        refine c_reg ?_
        refine r_u (o_mv rfl) ?_
        refine r_u (o_nc rfl) ?_
        refine r_u (o_fa fa86_1 rfl) ?_
        refine r_u (o_ld 3 sc24 rfl rfl rfl) ?_
        refine r_u (o_mv rfl) ?_
        obtain ⟨r25, hr25, hm26⟩ := bs hm22
        clear hm22
        refine r_c (s_w (o_call ca14 rfl (sketch_Sketch_Add.ok b20 x19 g10 a1 r25 hr25))) ?_
        refine r_nil ?_
        refine x_seq ?_
        refine c_seq ?_
        refine cd_st (fun _ h => st_pk 5 [4, 0, 1, 2, 3] (by decide) h) ?_
        refine cd_opt (fun ho29 => ?_) (fun x27 b28 ho29 => ?_)
        · rintro rfl
          have hm30 := om_n hm26 ho29
          clear hm26
          cases hm30
        · rintro rfl
          have hm30 := om_s hm26 ho29
          clear hm26
          refine cd_st (fun _ h => st_star_o h) ?_
          refine c_reg ?_
          refine r_u (o_mv rfl) ?_
          refine r_u (o_nc rfl) ?_
          refine r_u (o_fa fa86_2 rfl) ?_
          refine r_u (o_ld 8 sc82 rfl rfl rfl) ?_
          refine r_u (o_mv rfl) ?_
          obtain ⟨r35, hr35, hm41⟩ := bs hm30
          clear hm30
          refine r_sw (s_w (o_call ca56 rfl (ring_Rings_Front.ok b28 x27 g13 0 a1 r35 hr35))) ?_
          rintro _ R _ _ ⟨g36, rfl, rfl, rfl⟩
          refine r_nil ?_
          refine x_seq ?_
          refine c_seq ?_
          refine c_seq ?_
          obtain ⟨r42, hr42, hm43⟩ := bs hm41
          clear hm41
          refine c_any mixed (effs := [4]) (V := []) ?_
          refine stage_ext [(0, pt b0_ 0), (1, pt b0_ 0), (2, pt b0_ 2), (3, pt b28 0), (5, pt b0_ 0), (6, pt b0_ 0), (7, pt b0_ 0), (8, vI p6.2.most)] rfl ?_
          refine stage rfl rfl rfl rfl [0, 1, 3, 7, 15, 0, 32, 96, 224, 511, 1023, 2047] [0, 1, 2, 3, 5, 6, 7, 8] [4] rfl rfl rfl (qc rfl rfl (s_u (o_mv rfl)) (qc rfl rfl (s_u (o_nc rfl)) (qc rfl rfl (s_u (o_fa fa86_2 rfl)) (qc rfl rfl (s_u (o_ld 8 sc82 rfl rfl rfl)) (qc rfl rfl (s_u (o_mv rfl)) (qc rfl rfl (s_u (o_nc rfl)) (qc rfl rfl (s_u (o_fa fa86_0 rfl)) (qc rfl rfl (s_u (o_ld 8 sc3 rfl rfl rfl)) qn)))))))) ?_ (fun h => absurd h (by decide))
          refine ec (eo_c rfl (s_w (o_call ca57 rfl (ring_Rings_Len.ok b28 r35.2 g36 0 r42 hr42))) ?_) en
          refine stage_ext [(9, .agg (api_Parts.c (tiny_Parts p6.2.most)).toArray), (10, vI ((tiny_Parts p6.2.most).Window)), (11, vB (decide (r42 ≤ ((tiny_Parts p6.2.most).Window))))] rfl ?_
          refine stage rfl rfl rfl rfl [0, 1, 3, 7, 15, 0, 32, 96, 224, 511, 1023, 2047] [5, 6, 7, 8, 9, 10, 11] [] rfl rfl rfl (qc rfl rfl (s_u (o_mv rfl)) (qc rfl rfl (s_u (o_nc rfl)) (qc rfl rfl (s_u (o_fa fa86_0 rfl)) (qc rfl rfl (s_u (o_ld 8 sc3 rfl rfl rfl)) (qc rfl rfl (s_u (o_callq ca36 rfl (tiny_Parts.ok p6.2.most _ rfl))) (qc rfl rfl (s_u (o_fd (v := vI ((tiny_Parts p6.2.most).Window)) rfl (fun _ => by kernel_rfl))) (qc rfl rfl (s_u (o_bin rfl rfl (bI_le r42 ((tiny_Parts p6.2.most).Window)))) qn))))))) en ?_
          intro _
          refine ex_sub (E' := [(0, pt b0_ 0), (44, vB (decide (r42 ≤ ((tiny_Parts p6.2.most).Window))))]) ⟨rfl, rfl, trivial⟩ ?_
          refine x_seq ?_
          refine c_if (b := decide (r42 ≤ ((tiny_Parts p6.2.most).Window))) rfl (fun h44 => ?_) fun h44 => ?_
          · have hm45 := ift hm43 h44
            clear hm43
            refine c_seq ?_
            refine c_reg ?_
            refine r_u (o_as rfl) ?_
            refine r_nil ?_
            refine x_seq ?_
            refine c_ret ?_
            refine ex_st (fun _ h => st_nil (ap := true) (T := 9) (sz := 1) (en := eS) h) ?_
            refine ex_st (fun _ h => st_pk 10 [6, 7, 8, 0, 1, 2, 3, 4, 5, 9] (by decide) h) ?_
            refine ex_st (fun _ h => st_some (f := sketch_Sketch.op g10) (a := r25) (st_star_f (A := sketch_Sketch.fl b20 r25 g10) h)) ?_
            refine ex_st (fun _ h => st_pk 8 [2, 3, 4, 5, 6, 0, 1, 7] (by decide) h) ?_
            refine ex_st (fun _ h => st_some (f := ring_Rings.op g36) (a := r35.2) (st_star_f (A := ring_Rings.fl b28 r35.2 g36) h)) ?_
            obtain rfl := Option.some.inj hm45
            refine ex_st (fun _ h => st_pk 4 [2, 3, 1, 0] (by decide) h) ?_
            exact x_r1 rfl (rv_t rfl) (Le.refl _) ⟨_, rfl, (.slice none 0 0), (⟨(pt b20 0, g10), (pt b28 0, g36)⟩ : tiny_Tiny.G), rfl, rfl, rfl⟩
          · have hm45 := iff_ hm43 h44
            clear hm43
            refine c_skip ?_
            refine x_seq ?_
            refine c_seq ?_
            refine c_reg ?_
            refine r_u (o_mv rfl) ?_
            refine r_u (o_nc rfl) ?_
            refine r_u (o_fa fa86_2 rfl) ?_
            refine r_u (o_ld 8 sc82 rfl rfl rfl) ?_
            obtain ⟨r46, hr46, hm47⟩ := bs hm45
            clear hm45
            refine r_c (s_w (o_call ca58 rfl (ring_Rings_Back.ok b28 r35.2 g36 0 r46 hr46))) ?_
            refine r_u (o_mv rfl) ?_
            refine r_u (o_ext rfl rfl) ?_
            refine r_u (o_ext rfl rfl) ?_
            refine r_u (o_as rfl) ?_
            refine r_u (o_as rfl) ?_
            refine r_nil ?_
            refine x_seq ?_
            refine c_seq ?_
            refine c_seq ?_
            refine cd_st (fun _ h => st_pk 9 [5, 6, 7, 0, 1, 2, 3, 4, 8] (by decide) h) ?_
            refine cd_st (fun _ h => st_some (f := sketch_Sketch.op g10) (a := r25) (st_star_f (A := sketch_Sketch.fl b20 r25 g10) h)) ?_
            refine cd_st (fun _ h => st_pk 7 [1, 2, 3, 4, 5, 0, 6] (by decide) h) ?_
            refine cd_st (fun _ h => st_some (f := ring_Rings.op g36) (a := r35.2) (st_star_f (A := ring_Rings.fl b28 r35.2 g36) h)) ?_
            obtain ⟨r48, hr48, hm49⟩ := bs hm47
            clear hm47
            refine c_any mixed (effs := [1]) (V := []) ?_
            refine stage_st (fun _ h => st_pk 3 [2, 1, 0] (by decide) h) ?_
            refine stage_ext [(0, pt b0_ 0), (2, pt b0_ 0), (3, pt b0_ 0), (4, pt b0_ 0), (5, vI p6.2.most)] rfl ?_
            refine stage rfl rfl rfl rfl [0, 1, 0, 4, 12, 28, 63] [0, 2, 3, 4, 5] [1] rfl rfl rfl (qc rfl rfl (s_u (o_mv rfl)) (qc rfl rfl (s_u (o_mv rfl)) (qc rfl rfl (s_u (o_nc rfl)) (qc rfl rfl (s_u (o_fa fa86_0 rfl)) (qc rfl rfl (s_u (o_ld 0 sc3 rfl rfl rfl)) qn))))) ?_ (fun h => absurd h (by decide))
            refine ec (eo_c rfl (s_w (o_call ca31 rfl (tiny_Tiny_Len.ok b0_ (⟨p6.2.most, (some r25), (some r35.2)⟩ : tiny_Tiny) (⟨(pt b20 0, g10), (pt b28 0, g36)⟩ : tiny_Tiny.G) r48 hr48))) ?_) en
            refine stage_ext [(6, vB (decide (r48 ≤ p6.2.most)))] rfl ?_
            refine stage rfl rfl rfl rfl [0, 1, 0, 4, 12, 28, 63] [2, 3, 4, 5, 6] [] rfl rfl rfl (qc rfl rfl (s_u (o_mv rfl)) (qc rfl rfl (s_u (o_nc rfl)) (qc rfl rfl (s_u (o_fa fa86_0 rfl)) (qc rfl rfl (s_u (o_ld 0 sc3 rfl rfl rfl)) (qc rfl rfl (s_u (o_bin rfl rfl (bI_le r48 p6.2.most))) qn))))) en ?_
            intro _
            refine ex_sub (E' := [(0, pt b0_ 0), (5, vS r46.1), (59, vB (decide (r48 ≤ p6.2.most)))]) ⟨rfl, rfl, rfl, trivial⟩ ?_
            refine x_seq ?_
            refine c_if (b := decide (r48 ≤ p6.2.most)) rfl (fun h50 => ?_) fun h50 => ?_
            · have hm51 := ift hm49 h50
              clear hm49
              refine c_seq ?_
              refine cd_st (fun _ h => st_pk 3 [2, 0, 1] (by decide) h) ?_
              refine cd_st (fun _ h => st_some_o h) ?_
              refine cd_st (fun _ h => st_star_o h) ?_
              refine c_reg ?_
              refine r_u (o_mv rfl) ?_
              refine r_u (o_nc rfl) ?_
              refine r_u (o_fa fa86_2 rfl) ?_
              refine r_u (o_ld 5 sc82 rfl rfl rfl) ?_
              refine r_u (o_mv rfl) ?_
              obtain ⟨r52, hr52, hm58⟩ := bs hm51
              clear hm51
              refine r_sw (s_w (o_call ca56 rfl (ring_Rings_Front.ok b28 r35.2 g36 1 r46.1 r52 hr52))) ?_
              rintro _ R _ _ ⟨g53, rfl, rfl, rfl⟩
              refine r_nil ?_
              refine x_seq ?_
              refine c_seq ?_
              refine c_reg ?_
              refine r_u (o_as rfl) ?_
              refine r_nil ?_
              refine x_seq ?_
              refine c_ret ?_
              refine ex_st (fun _ h => st_nil (ap := true) (T := 9) (sz := 1) (en := eS) h) ?_
              refine ex_st (fun _ h => st_pk 8 [1, 2, 3, 4, 5, 0, 6, 7] (by decide) h) ?_
              refine ex_st (fun _ h => st_some (f := ring_Rings.op g53) (a := r52.2) (st_star_f (A := ring_Rings.fl b28 r52.2 g53) h)) ?_
              obtain rfl := Option.some.inj hm58
              refine ex_st (fun _ h => st_pk 4 [1, 2, 3, 0] (by decide) h) ?_
              exact x_r1 rfl (rv_t rfl) (Le.refl _) ⟨_, rfl, (.slice none 0 0), (⟨(pt b20 0, g10), (pt b28 0, g53)⟩ : tiny_Tiny.G), rfl, rfl, rfl⟩
            · have hm51 := iff_ hm49 h50
              clear hm49
              refine c_skip ?_
              refine x_seq ?_
              refine c_seq ?_
              refine c_reg ?_
              refine r_u (o_mv rfl) ?_
              obtain ⟨r59, hr59, hm60⟩ := bs hm51
              clear hm51
              refine r_c (s_w (o_call ca59 rfl (tiny_Tiny_last.ok b0_ (⟨p6.2.most, (some r25), (some r35.2)⟩ : tiny_Tiny) (⟨(pt b20 0, g10), (pt b28 0, g36)⟩ : tiny_Tiny.G) r59 hr59))) ?_
              refine r_u (o_mv rfl) ?_
              refine r_u (o_ext rfl rfl) ?_
              refine r_u (o_ext rfl rfl) ?_
              refine r_u (o_as rfl) ?_
              refine r_u (o_as rfl) ?_
              refine r_nil ?_
              refine x_seq ?_
              refine c_seq ?_
              refine c_seq ?_
              refine cd_st (fun _ h => st_pk 3 [1, 0, 2] (by decide) h) ?_
              refine cd_st (fun _ h => st_some_o h) ?_
              refine cd_st (fun _ h => st_star_o h) ?_
              obtain ⟨p61, hp62, hm63⟩ := bs hm60
              refine cd_join (E' := [(0, pt b0_ 0), (5, vS r46.1), (7, vS r59.1), (86, vB p61)]) (L' := Bk b20 70 [vI r25.wide, vW r25.seed, g10.rows.1, g10.rows.2.1, g10.rows.2.2.1, g10.rows.2.2.2, g10.door, vI r25.added] :: Bk b0_ 86 [vI p6.2.most, pt b20 0, pt b28 0] :: OwL (OwS false 5 1 eY) [g10.rows.1, g10.rows.2.1, g10.rows.2.2.1, g10.rows.2.2.2] r25.rows :: OwS true 4 1 eB g10.door r25.door :: rO (ring_Rings.op g36) (pt b28 0) (some r35.2) :: F) ?_ fun K64 => ?_
              · refine x_seq ?_
                refine c_if (b := p61) rfl (fun h65 => ?_) fun h65 => ?_
                · have hm66 := ift hm63 h65
                  clear hm63
                  refine c_seq ?_
                  refine cd_st (fun _ h => st_pk 5 [4, 0, 1, 2, 3] (by decide) h) ?_
                  refine cd_st (fun _ h => st_some_o h) ?_
                  refine cd_st (fun _ h => st_star_o h) ?_
                  refine c_reg ?_
                  refine r_u (o_mv rfl) ?_
                  refine r_u (o_nc rfl) ?_
                  refine r_u (o_fa fa86_2 rfl) ?_
                  refine r_u (o_ld 6 sc82 rfl rfl rfl) ?_
                  refine r_u (o_mv rfl) ?_
                  obtain ⟨r67, hr67, hm73⟩ := bs hm66
                  clear hm66
                  refine r_sw (s_w (o_call ca60 rfl (ring_Rings_Drop.ok b28 r35.2 g36 r59.1 r67 hr67))) ?_
                  rintro _ R _ _ ⟨g68, rfl, rfl, rfl⟩
                  refine r_nil ?_
                  refine x_seq ?_
                  refine c_seq ?_
                  refine c_reg ?_
                  refine r_u (o_mv rfl) ?_
                  refine r_u (o_nc rfl) ?_
                  refine r_u (o_fa fa86_2 rfl) ?_
                  refine r_u (o_ld 6 sc82 rfl rfl rfl) ?_
                  refine r_u (o_mv rfl) ?_
                  obtain ⟨r74, hr74, hm80⟩ := bs hm73
                  clear hm73
                  refine r_sw (s_w (o_call ca56 rfl (ring_Rings_Front.ok b28 r67.2 g68 1 r46.1 r74 hr74))) ?_
                  rintro _ R _ _ ⟨g75, rfl, rfl, rfl⟩
                  refine r_nil ?_
                  refine x_seq ?_
                  refine c_seq ?_
                  refine c_reg ?_
                  refine r_u (o_mv rfl) ?_
                  refine r_sw (s_w (o_bsl (en := eS) (sz := 1) (e := 9) (cs := [vS r59.1]) (r := [r59.1]) rfl (fun _ => by kernel_rfl) rfl (by decide) rfl (fun _ => rfl))) ?_
                  rintro v81 R _ _ ⟨rfl, rfl⟩
                  refine r_u (o_as rfl) ?_
                  refine r_nil ?_
                  refine x_seq ?_
                  refine c_ret ?_
                  refine ex_st (fun _ h => st_pk 10 [6, 8, 9, 0, 1, 2, 3, 4, 5, 7] (by decide) h) ?_
                  refine ex_st (fun _ h => st_some (f := sketch_Sketch.op g10) (a := r25) (st_star_f (A := sketch_Sketch.fl b20 r25 g10) h)) ?_
                  refine ex_st (fun _ h => st_pk 8 [2, 3, 4, 5, 6, 0, 1, 7] (by decide) h) ?_
                  refine ex_st (fun _ h => st_some (f := ring_Rings.op g75) (a := r74.2) (st_star_f (A := ring_Rings.fl b28 r74.2 g75) h)) ?_
                  obtain rfl := Option.some.inj hm80
                  refine ex_st (fun _ h => st_pk 4 [2, 3, 1, 0] (by decide) h) ?_
                  exact x_r1 rfl (rv_t rfl) (Le.refl _) ⟨_, rfl, v81, (⟨(pt b20 0, g10), (pt b28 0, g75)⟩ : tiny_Tiny.G), rfl, rfl, rfl⟩
                · have hm66 := iff_ hm63 h65
                  clear hm63
                  refine c_skip ?_
                  refine x_seq ?_
                  refine c_seq ?_
                  refine cd_st (fun _ h => st_pk 5 [4, 0, 1, 2, 3] (by decide) h) ?_
                  refine cd_st (fun _ h => st_some_o h) ?_
                  refine cd_st (fun _ h => st_star_o h) ?_
                  refine c_reg ?_
                  refine r_u (o_mv rfl) ?_
                  refine r_u (o_nc rfl) ?_
                  refine r_u (o_fa fa86_2 rfl) ?_
                  refine r_u (o_ld 6 sc82 rfl rfl rfl) ?_
                  refine r_u (o_mv rfl) ?_
                  obtain ⟨r82, hr82, hm88⟩ := bs hm66
                  clear hm66
                  refine r_sw (s_w (o_call ca60 rfl (ring_Rings_Drop.ok b28 r35.2 g36 r46.1 r82 hr82))) ?_
                  rintro _ R _ _ ⟨g83, rfl, rfl, rfl⟩
                  refine r_nil ?_
                  refine x_seq ?_
                  refine c_seq ?_
                  refine c_reg ?_
                  refine r_u (o_mv rfl) ?_
                  refine r_sw (s_w (o_bsl (en := eS) (sz := 1) (e := 9) (cs := [vS r46.1]) (r := [r46.1]) rfl (fun _ => by kernel_rfl) rfl (by decide) rfl (fun _ => rfl))) ?_
                  rintro v89 R _ _ ⟨rfl, rfl⟩
                  refine r_u (o_as rfl) ?_
                  refine r_nil ?_
                  refine x_seq ?_
                  refine c_ret ?_
                  refine ex_st (fun _ h => st_pk 10 [6, 8, 9, 0, 1, 2, 3, 4, 5, 7] (by decide) h) ?_
                  refine ex_st (fun _ h => st_some (f := sketch_Sketch.op g10) (a := r25) (st_star_f (A := sketch_Sketch.fl b20 r25 g10) h)) ?_
                  refine ex_st (fun _ h => st_pk 8 [2, 3, 4, 5, 6, 0, 1, 7] (by decide) h) ?_
                  refine ex_st (fun _ h => st_some (f := ring_Rings.op g83) (a := r82.2) (st_star_f (A := ring_Rings.fl b28 r82.2 g83) h)) ?_
                  obtain rfl := Option.some.inj hm88
                  refine ex_st (fun _ h => st_pk 4 [2, 3, 1, 0] (by decide) h) ?_
                  exact x_r1 rfl (rv_t rfl) (Le.refl _) ⟨_, rfl, v89, (⟨(pt b20 0, g10), (pt b28 0, g83)⟩ : tiny_Tiny.G), rfl, rfl, rfl⟩
              · refine cd_by r59.2 (fun h90 => ?_) fun h90 => ?_
                · have hm91 := ift hp62 h90
                  clear hp62
                  obtain ⟨r92, hr92, hm93⟩ := bs hm91
                  clear hm91
                  obtain ⟨r94, hr94, hm95⟩ := bs hm93
                  clear hm93
                  refine c_any mixed (effs := [7, 13]) (V := []) ?_
                  refine stage_ext [(0, vB r59.2), (1, vB r59.2), (2, pt b0_ 0), (3, pt b0_ 0), (4, pt b0_ 1), (5, pt b20 0), (6, vS r46.1), (8, pt b0_ 0), (9, pt b0_ 0), (10, pt b0_ 1), (11, pt b20 0), (12, vS r59.1)] rfl ?_
                  refine stage rfl rfl rfl rfl [0, 1, 3, 7, 15, 31, 3, 127, 3, 259, 771, 1795, 3, 8191, 16383, 32767] [0, 1, 2, 3, 4, 5, 6, 8, 9, 10, 11, 12] [7] rfl rfl rfl (qc rfl rfl (s_u (o_mv rfl)) (qc rfl rfl (s_u (o_mv rfl)) (qc rfl rfl (s_y rfl rfl h90 (o_mv rfl)) (qc rfl rfl (s_y rfl rfl h90 (o_nc rfl)) (qc rfl rfl (s_y rfl rfl h90 (o_fa fa86_1 rfl)) (qc rfl rfl (s_y rfl rfl h90 (o_ld 3 sc24 rfl rfl rfl)) (qc rfl rfl (s_y rfl rfl h90 (o_mv rfl)) (qc rfl rfl (s_y rfl rfl h90 (o_mv rfl)) (qc rfl rfl (s_y rfl rfl h90 (o_nc rfl)) (qc rfl rfl (s_y rfl rfl h90 (o_fa fa86_1 rfl)) (qc rfl rfl (s_y rfl rfl h90 (o_ld 3 sc24 rfl rfl rfl)) (qc rfl rfl (s_y rfl rfl h90 (o_mv rfl)) qn)))))))))))) ?_ (fun h => absurd h (by decide))
                  refine ec (eo_c rfl (s_yw rfl rfl h90 (o_call ca16 rfl (sketch_Sketch_Seen.ok b20 r25 g10 r46.1 r92 hr92))) ?_) en
                  refine stage rfl rfl rfl rfl [0, 1, 3, 7, 15, 31, 3, 127, 3, 259, 771, 1795, 3, 8191, 16383, 32767] [8, 9, 10, 11, 12] [13] rfl rfl rfl (qc rfl rfl (s_y rfl rfl h90 (o_mv rfl)) (qc rfl rfl (s_y rfl rfl h90 (o_nc rfl)) (qc rfl rfl (s_y rfl rfl h90 (o_fa fa86_1 rfl)) (qc rfl rfl (s_y rfl rfl h90 (o_ld 3 sc24 rfl rfl rfl)) (qc rfl rfl (s_y rfl rfl h90 (o_mv rfl)) qn))))) ?_ (fun h => absurd h (by decide))
                  refine ec (eo_c rfl (s_yw rfl rfl h90 (o_call ca16 rfl (sketch_Sketch_Seen.ok b20 r25 g10 r59.1 r94 hr94))) ?_) en
                  refine stage_ext [(14, vB (decide (r94 < r92))), (15, vB (decide (r94 < r92)))] rfl ?_
                  refine stage rfl rfl rfl rfl [0, 1, 3, 7, 15, 31, 3, 127, 3, 259, 771, 1795, 3, 8191, 16383, 32767] [14, 15] [] rfl rfl rfl (qc rfl rfl (s_y rfl rfl h90 (o_bin rfl rfl (bI_gt r92 r94))) (qc rfl rfl (s_u (o_pt rfl h90 rfl)) qn)) en ?_
                  intro _
                  refine ex_sub (E' := [(0, pt b0_ 0), (5, vS r46.1), (7, vS r59.1), (86, vB (decide (r94 < r92)))]) ⟨rfl, rfl, rfl, rfl, trivial⟩ ?_
                  obtain rfl := Option.some.inj hm95
                  exact x_sub K64 ⟨rfl, rfl, rfl, rfl, trivial⟩ (fun _ h => st_pk 5 [0, 3, 1, 2, 4] (by decide) h)
                · have hm91 := iff_ hp62 h90
                  clear hp62
                  refine c_any mixed (effs := []) (V := []) ?_
                  refine stage_ext [(0, vB r59.2), (1, vB r59.2), (2, undef), (3, undef), (4, undef), (5, undef), (6, undef), (7, undef), (8, undef), (9, undef), (10, undef), (11, undef), (12, undef), (13, undef), (14, undef), (15, vB false)] rfl ?_
                  refine stage rfl rfl rfl rfl [0, 1, 3, 7, 15, 31, 3, 127, 3, 259, 771, 1795, 3, 8191, 16383, 32767] [0, 1, 2, 3, 4, 5, 6, 7, 8, 9, 10, 11, 12, 13, 14, 15] [] rfl rfl rfl (qc rfl rfl (s_u (o_mv rfl)) (qc rfl rfl (s_u (o_mv rfl)) (qc rfl rfl (s_n rfl rfl h90) (qc rfl rfl (s_n rfl rfl h90) (qc rfl rfl (s_n rfl rfl h90) (qc rfl rfl (s_n rfl rfl h90) (qc rfl rfl (s_n rfl rfl h90) (qc rfl rfl (s_n rfl rfl h90) (qc rfl rfl (s_n rfl rfl h90) (qc rfl rfl (s_n rfl rfl h90) (qc rfl rfl (s_n rfl rfl h90) (qc rfl rfl (s_n rfl rfl h90) (qc rfl rfl (s_n rfl rfl h90) (qc rfl rfl (s_n rfl rfl h90) (qc rfl rfl (s_n rfl rfl h90) (qc rfl rfl (s_u (o_pf rfl h90 rfl)) qn)))))))))))))))) en ?_
                  intro _
                  refine ex_sub (E' := [(0, pt b0_ 0), (5, vS r46.1), (7, vS r59.1), (86, vB false)]) ⟨rfl, rfl, rfl, rfl, trivial⟩ ?_
                  obtain rfl := Option.some.inj hm91
                  exact x_sub K64 ⟨rfl, rfl, rfl, rfl, trivial⟩ (fun _ h => st_pk 5 [0, 3, 1, 2, 4] (by decide) h)
  · refine cd_by (decide (64 < (a1.length : Int))) (fun h96 => ?_) fun h96 => ?_
    · have hm97 := ift hp14 h96
      clear hp14
      refine c_reg ?_
      refine r_u (o_mv rfl) ?_
      refine r_u (o_bin rfl rfl (bP_eqp Try.underlying47)) ?_
      refine r_u (o_mv rfl) ?_
      refine r_s (s_y rfl rfl rfl (o_mv rfl)) ?_
      refine r_s (s_y rfl rfl rfl (o_lenS Try.underlying9 rfl)) ?_
      refine r_s (s_y rfl rfl rfl (o_bin rfl rfl (bI_gt (a1.length : Int) 64))) ?_
      refine r_u (o_pf rfl rfl rfl) ?_
      refine r_u (o_mv rfl) ?_
      refine r_s (s_n rfl rfl h96) ?_
      refine r_s (s_n rfl rfl h96) ?_
      refine r_s (s_n rfl rfl h96) ?_
      refine r_u (o_pt rfl h96 rfl) ?_
      refine r_nil ?_
      obtain rfl := Option.some.inj hm97
      exact x_sub (K16 (⟨(pv1, g2), (pv4, g5)⟩ : tiny_Tiny.G)) ⟨rfl, rfl, rfl, trivial⟩ (fun _ h => st_pk 3 [0, 1, 2] (by decide) h)
    · have hm97 := iff_ hp14 h96
      clear hp14
      refine c_reg ?_
      refine r_u (o_mv rfl) ?_
      refine r_u (o_bin rfl rfl (bP_eqp Try.underlying47)) ?_
      refine r_u (o_mv rfl) ?_
      refine r_s (s_y rfl rfl rfl (o_mv rfl)) ?_
      refine r_s (s_y rfl rfl rfl (o_lenS Try.underlying9 rfl)) ?_
      refine r_s (s_y rfl rfl rfl (o_bin rfl rfl (bI_gt (a1.length : Int) 64))) ?_
      refine r_u (o_pf rfl rfl rfl) ?_
      refine r_u (o_mv rfl) ?_
      refine r_s (s_y rfl rfl h96 (o_mv rfl)) ?_
      refine r_s (s_y rfl rfl h96 (o_mv rfl)) ?_
      obtain ⟨r98, hr98, hm106⟩ := bs hm97
      clear hm97
      refine r_sw (s_yw rfl rfl h96 (o_call ca34 rfl (tiny_Tiny_Touch.ok b0_ a0 (⟨(pv1, g2), (pv4, g5)⟩ : tiny_Tiny.G) a1 r98 hr98))) ?_
      rintro _ R _ _ ⟨⟨⟨pv101, g102⟩, ⟨pv104, g105⟩⟩, rfl, rfl, rfl⟩
      refine r_u (o_pf rfl h96 rfl) ?_
      refine r_nil ?_
      obtain rfl := Option.some.inj hm106
      exact x_sub (K16 (⟨(pv101, g102), (pv104, g105)⟩ : tiny_Tiny.G)) ⟨rfl, rfl, rfl, trivial⟩ (fun _ h => st_pk 3 [0, 1, 2] (by decide) h)

def tiny_Tiny_Seen (a0 : tiny_Tiny) (a1 : Str) : Option Int :=
  om a0.s (none) fun x6 => (sketch_Sketch_Seen x6 a1).bind fun r12 => some r12
theorem tiny_Tiny_Seen.ok {G R F} (b0_ : Nat) (a0 : tiny_Tiny) (g0_ : tiny_Tiny.G) (a1 : Str) (r : Int) (hm : tiny_Tiny_Seen a0 a1 = some r) : CO Try.prog 35 [pt b0_ 0, vS a1] G R (Bk b0_ 86 [vI a0.most, g0_.s.1, g0_.r.1] :: rO (sketch_Sketch.op g0_.s.2) g0_.s.1 a0.s :: rO (ring_Rings.op g0_.r.2) g0_.r.1 a0.r :: F)
    (Ret fun u R' L' => u = vI r ∧ R' = R ∧ L' = Bk b0_ 86 [vI a0.most, g0_.s.1, g0_.r.1] :: rO (sketch_Sketch.op g0_.s.2) g0_.s.1 a0.s :: rO (ring_Rings.op g0_.r.2) g0_.r.1 a0.r :: F) := by
  obtain ⟨⟨pv1, g2⟩, ⟨pv4, g5⟩⟩ := g0_
  unfold tiny_Tiny_Seen at hm
  refine co_ofN (N := 13) Try.func35 rfl rfl ?_
  refine c_seq ?_
  refine c_reg ?_
  refine r_u (o_as rfl) ?_
  refine r_nil ?_
  refine x_seq ?_
  refine c_seq ?_
  refine c_seq ?_
  refine c_reg ?_
  refine r_u (o_mv rfl) ?_
  refine r_u (o_bin rfl rfl (bP_eqp Try.underlying47)) ?_
  refine r_nil ?_
  refine x_seq ?_
  refine c_ff rfl ?_
  refine c_skip ?_
  refine x_seq ?_
  refine c_seq ?_
  refine cd_st (fun _ h => st_pk 3 [1, 0, 2] (by decide) h) ?_
  refine cd_opt (fun ho8 => ?_) (fun x6 b7 ho8 => ?_)
  · rintro rfl
    have hm9 := om_n hm ho8
    clear hm
    cases hm9
  · rintro rfl
    have hm9 := om_s hm ho8
    clear hm
    refine cd_st (fun _ h => st_star_o h) ?_
    refine c_reg ?_
    refine r_u (o_mv rfl) ?_
    refine r_u (o_nc rfl) ?_
    refine r_u (o_fa fa86_1 rfl) ?_
    refine r_u (o_ld 3 sc24 rfl rfl rfl) ?_
    refine r_u (o_mv rfl) ?_
    obtain ⟨r12, hr12, hm13⟩ := bs hm9
    clear hm9
    refine r_c (s_w (o_call ca16 rfl (sketch_Sketch_Seen.ok b7 x6 g2 a1 r12 hr12))) ?_
    refine r_u (o_as rfl) ?_
    refine r_nil ?_
    refine x_seq ?_
    refine c_ret ?_
    refine ex_st (fun _ h => st_some (f := sketch_Sketch.op g2) (a := x6) (st_star_f (A := sketch_Sketch.fl b7 x6 g2) h)) ?_
    refine ex_st (fun _ h => st_back ho8 h) ?_
    obtain rfl := Option.some.inj hm13
    refine ex_st (fun _ h => st_pk 3 [1, 0, 2] (by decide) h) ?_
    exact x_r1 rfl (rv_t rfl) (Le.refl _) ⟨_, rfl, rfl, rfl, rfl⟩

def hawthornlaw08_awake  : Option Bool :=
  (tiny_New 2 1).bind fun r0 => om r0.1 (none) fun x5 => (tiny_Tiny_Insert x5 [120]).bind fun r15 => (tiny_Tiny_Touch r15.2 [120]).bind fun r25 => (tiny_Tiny_Touch r25.2 [120]).bind fun r34 => (tiny_Tiny_Insert r34.2 [121]).bind fun r43 => (tiny_Tiny_Insert r43.2 [122]).bind fun r53 => if ((r0.2 == 0) && ((r53.1.length : Int) == 1)) then (gi r53.1 0).bind fun x65 => if (x65 == [121]) then (tiny_Tiny_Has r53.2 [120]).bind fun r69 => if r69 then (tiny_Tiny_Has r53.2 [122]).bind fun r73 => if r73 then (tiny_Tiny_Len r53.2).bind fun r77 => if (r77 == 2) then (tiny_Tiny_Seen r53.2 [120]).bind fun r81 => some (r81 == 3) else some false else some false else some false else some false else some false
theorem hawthornlaw08_awake.ok {G R F} (r : Bool) (hm : hawthornlaw08_awake = some r) : CO Try.prog 28 [] G R (F)
    (Ret fun u R' L' => u = vB r ∧ R' = R ∧ L' = F) := by
  unfold hawthornlaw08_awake at hm
  refine co_ofN (N := 49) Try.func28 rfl rfl ?_
  refine c_seq ?_
  refine c_reg ?_
  refine r_u (o_as rfl) ?_
  refine r_nil ?_
  refine x_seq ?_
  refine c_seq ?_
  refine c_reg ?_
  obtain ⟨r0, hr0, hm4⟩ := bs hm
  clear hm
  refine r_sw (s_w (o_call ca27 rfl (tiny_New.ok 2 1 r0 hr0))) ?_
  rintro _ R _ _ ⟨⟨pv2, g3⟩, rfl, rfl, rfl⟩
  refine r_u (o_mv rfl) ?_
  refine r_u (o_ext rfl rfl) ?_
  refine r_u (o_ext rfl rfl) ?_
  refine r_u (o_as rfl) ?_
  refine r_u (o_as rfl) ?_
  refine r_nil ?_
  refine x_seq ?_
  refine c_seq ?_
  refine cd_opt (fun ho7 => ?_) (fun x5 b6 ho7 => ?_)
  · rintro rfl
    have hm8 := om_n hm4 ho7
    clear hm4
    cases hm8
  · rintro rfl
    have hm8 := om_s hm4 ho7
    clear hm4
    obtain ⟨⟨pv10, g11⟩, ⟨pv13, g14⟩⟩ := g3
    refine cd_st (fun _ h => st_star_o h) ?_
    refine c_reg ?_
    refine r_u (o_mv rfl) ?_
    obtain ⟨r15, hr15, hm24⟩ := bs hm8
    clear hm8
    refine r_sw (s_w (o_call ca30 rfl (tiny_Tiny_Insert.ok b6 x5 (⟨(pv10, g11), (pv13, g14)⟩ : tiny_Tiny.G) [120] r15 hr15))) ?_
    rintro v16 R _ _ ⟨_, ⟨⟨pv19, g20⟩, ⟨pv22, g23⟩⟩, rfl, rfl, rfl⟩
    refine r_nil ?_
    refine x_seq ?_
    refine c_seq ?_
    refine c_reg ?_
    refine r_u (o_mv rfl) ?_
    obtain ⟨r25, hr25, hm33⟩ := bs hm24
    clear hm24
    refine rl_st (fun _ h => st_pk 4 [1, 2, 3, 0] (by decide) h) ?_
    refine r_sw (s_w (o_call ca34 rfl (tiny_Tiny_Touch.ok b6 r15.2 (⟨(pv19, g20), (pv22, g23)⟩ : tiny_Tiny.G) [120] r25 hr25))) ?_
    rintro _ R _ _ ⟨⟨⟨pv28, g29⟩, ⟨pv31, g32⟩⟩, rfl, rfl, rfl⟩
    refine r_nil ?_
    refine x_seq ?_
    refine c_seq ?_
    refine c_reg ?_
    refine r_u (o_mv rfl) ?_
    obtain ⟨r34, hr34, hm42⟩ := bs hm33
    clear hm33
    refine r_sw (s_w (o_call ca34 rfl (tiny_Tiny_Touch.ok b6 r25.2 (⟨(pv28, g29), (pv31, g32)⟩ : tiny_Tiny.G) [120] r34 hr34))) ?_
    rintro _ R _ _ ⟨⟨⟨pv37, g38⟩, ⟨pv40, g41⟩⟩, rfl, rfl, rfl⟩
    refine r_nil ?_
    refine x_seq ?_
    refine c_seq ?_
    refine c_reg ?_
    refine r_u (o_mv rfl) ?_
    obtain ⟨r43, hr43, hm52⟩ := bs hm42
    clear hm42
    refine r_sw (s_w (o_call ca30 rfl (tiny_Tiny_Insert.ok b6 r34.2 (⟨(pv37, g38), (pv40, g41)⟩ : tiny_Tiny.G) [121] r43 hr43))) ?_
    rintro v44 R _ _ ⟨_, ⟨⟨pv47, g48⟩, ⟨pv50, g51⟩⟩, rfl, rfl, rfl⟩
    refine r_nil ?_
    refine x_seq ?_
    refine c_seq ?_
    refine c_reg ?_
    refine r_u (o_mv rfl) ?_
    obtain ⟨r53, hr53, hm62⟩ := bs hm52
    clear hm52
    refine rl_st (fun _ h => st_pk 5 [1, 2, 3, 0, 4] (by decide) h) ?_
    refine r_sw (s_w (o_call ca30 rfl (tiny_Tiny_Insert.ok b6 r43.2 (⟨(pv47, g48), (pv50, g51)⟩ : tiny_Tiny.G) [122] r53 hr53))) ?_
    rintro v54 R _ _ ⟨_, ⟨⟨pv57, g58⟩, ⟨pv60, g61⟩⟩, rfl, rfl, rfl⟩
    refine r_u (o_as rfl) ?_
    refine r_nil ?_
    refine x_seq ?_
    refine c_seq ?_
    refine cd_by ((r0.2 == 0) && ((r53.1.length : Int) == 1)) (fun h63 => ?_) fun h63 => ?_
    · have hm64 := ift hm62 h63
      clear hm62
      obtain ⟨x65, hx65, hm66⟩ := bs hm64
      clear hm64
      refine cd_by (x65 == [121]) (fun h67 => ?_) fun h67 => ?_
      · have hm68 := ift hm66 h67
        clear hm66
        obtain ⟨r69, hr69, hm70⟩ := bs hm68
        clear hm68
        refine cd_by r69 (fun h71 => ?_) fun h71 => ?_
        · have hm72 := ift hm70 h71
          clear hm70
          obtain ⟨r73, hr73, hm74⟩ := bs hm72
          clear hm72
          refine cd_by r73 (fun h75 => ?_) fun h75 => ?_
          · have hm76 := ift hm74 h75
            clear hm74
            obtain ⟨r77, hr77, hm78⟩ := bs hm76
            clear hm76
            refine cd_by (r77 == 2) (fun h79 => ?_) fun h79 => ?_
            · have hm80 := ift hm78 h79
              clear hm78
              refine c_reg ?_
              refine r_u (o_mv rfl) ?_
              refine r_u (o_bin rfl rfl (bI_eq r0.2 0)) ?_
              refine r_u (o_mv rfl) ?_
              refine r_s (s_gt rfl rfl fun g => o_mv rfl) ?_
              refine r_s (s_gt rfl rfl fun g => o_lenO 0 Try.underlying23 (evg rfl g) rfl) ?_
              refine r_s (s_gt rfl rfl fun g => o_bin (evg rfl g) rfl (bI_eq (r53.1.length : Int) 1)) ?_
              refine r_u (o_and rfl rfl) ?_
              refine r_u (o_mv rfl) ?_
              refine r_s (s_y rfl rfl h63 (o_mv rfl)) ?_
              refine r_s (s_y rfl rfl h63 (o_ixO 0 Try.underlying23 (fun _ => by kernel_rfl) rfl rfl rfl hx65)) ?_
              refine r_s (s_y rfl rfl h63 (o_ldO0 0 sc9 rfl rfl hx65 rfl rfl)) ?_
              refine r_s (s_y rfl rfl h63 (o_bin rfl rfl (bS_eq x65 [121]))) ?_
              refine r_u (o_pt rfl h63 rfl) ?_
              refine r_u (o_mv rfl) ?_
              refine r_s (s_y rfl rfl h67 (o_mv rfl)) ?_
              refine rl_st (fun _ h => st_pk 6 [1, 2, 3, 0, 4, 5] (by decide) h) ?_
              refine r_c (s_yw rfl rfl h67 (o_call ca32 rfl (tiny_Tiny_Has.ok b6 r53.2 (⟨(pv57, g58), (pv60, g61)⟩ : tiny_Tiny.G) [120] r69 hr69))) ?_
              refine r_u (o_pt rfl h67 rfl) ?_
              refine r_u (o_mv rfl) ?_
              refine r_s (s_y rfl rfl h71 (o_mv rfl)) ?_
              refine r_c (s_yw rfl rfl h71 (o_call ca32 rfl (tiny_Tiny_Has.ok b6 r53.2 (⟨(pv57, g58), (pv60, g61)⟩ : tiny_Tiny.G) [122] r73 hr73))) ?_
              refine r_u (o_pt rfl h71 rfl) ?_
              refine r_u (o_mv rfl) ?_
              refine r_s (s_y rfl rfl h75 (o_mv rfl)) ?_
              refine r_c (s_yw rfl rfl h75 (o_call ca31 rfl (tiny_Tiny_Len.ok b6 r53.2 (⟨(pv57, g58), (pv60, g61)⟩ : tiny_Tiny.G) r77 hr77))) ?_
              refine r_s (s_y rfl rfl h75 (o_bin rfl rfl (bI_eq r77 2))) ?_
              refine r_u (o_pt rfl h75 rfl) ?_
              refine r_u (o_mv rfl) ?_
              refine r_s (s_y rfl rfl h79 (o_mv rfl)) ?_
              obtain ⟨r81, hr81, hm82⟩ := bs hm80
              clear hm80
              refine r_c (s_yw rfl rfl h79 (o_call ca35 rfl (tiny_Tiny_Seen.ok b6 r53.2 (⟨(pv57, g58), (pv60, g61)⟩ : tiny_Tiny.G) [120] r81 hr81))) ?_
              refine r_s (s_y rfl rfl h79 (o_bin rfl rfl (bI_eq r81 3))) ?_
              refine r_u (o_pt rfl h79 rfl) ?_
              refine r_u (o_as rfl) ?_
              refine r_nil ?_
              refine x_seq ?_
              refine c_ret ?_
              obtain rfl := Option.some.inj hm82
              refine ex_st (fun _ h => st_pk 6 [] (by decide) h) ?_
              exact x_r1 rfl (rv_t rfl) (Le.refl _) ⟨_, rfl, rfl, rfl, rfl⟩
            · have hm80 := iff_ hm78 h79
              clear hm78
              refine c_reg ?_
              refine r_u (o_mv rfl) ?_
              refine r_u (o_bin rfl rfl (bI_eq r0.2 0)) ?_
              refine r_u (o_mv rfl) ?_
              refine r_s (s_gt rfl rfl fun g => o_mv rfl) ?_
              refine r_s (s_gt rfl rfl fun g => o_lenO 0 Try.underlying23 (evg rfl g) rfl) ?_
              refine r_s (s_gt rfl rfl fun g => o_bin (evg rfl g) rfl (bI_eq (r53.1.length : Int) 1)) ?_
              refine r_u (o_and rfl rfl) ?_
              refine r_u (o_mv rfl) ?_
              refine r_s (s_y rfl rfl h63 (o_mv rfl)) ?_
              refine r_s (s_y rfl rfl h63 (o_ixO 0 Try.underlying23 (fun _ => by kernel_rfl) rfl rfl rfl hx65)) ?_
              refine r_s (s_y rfl rfl h63 (o_ldO0 0 sc9 rfl rfl hx65 rfl rfl)) ?_
              refine r_s (s_y rfl rfl h63 (o_bin rfl rfl (bS_eq x65 [121]))) ?_
              refine r_u (o_pt rfl h63 rfl) ?_
              refine r_u (o_mv rfl) ?_
              refine r_s (s_y rfl rfl h67 (o_mv rfl)) ?_
              refine rl_st (fun _ h => st_pk 6 [1, 2, 3, 0, 4, 5] (by decide) h) ?_
              refine r_c (s_yw rfl rfl h67 (o_call ca32 rfl (tiny_Tiny_Has.ok b6 r53.2 (⟨(pv57, g58), (pv60, g61)⟩ : tiny_Tiny.G) [120] r69 hr69))) ?_
              refine r_u (o_pt rfl h67 rfl) ?_
              refine r_u (o_mv rfl) ?_
              refine r_s (s_y rfl rfl h71 (o_mv rfl)) ?_
              refine r_c (s_yw rfl rfl h71 (o_call ca32 rfl (tiny_Tiny_Has.ok b6 r53.2 (⟨(pv57, g58), (pv60, g61)⟩ : tiny_Tiny.G) [122] r73 hr73))) ?_
              refine r_u (o_pt rfl h71 rfl) ?_
              refine r_u (o_mv rfl) ?_
              refine r_s (s_y rfl rfl h75 (o_mv rfl)) ?_
              refine r_c (s_yw rfl rfl h75 (o_call ca31 rfl (tiny_Tiny_Len.ok b6 r53.2 (⟨(pv57, g58), (pv60, g61)⟩ : tiny_Tiny.G) r77 hr77))) ?_
              refine r_s (s_y rfl rfl h75 (o_bin rfl rfl (bI_eq r77 2))) ?_
              refine r_u (o_pt rfl h75 rfl) ?_
              refine r_u (o_mv rfl) ?_
              refine r_s (s_n rfl rfl h79) ?_
              refine r_s (s_n rfl rfl h79) ?_
              refine r_s (s_n rfl rfl h79) ?_
              refine r_u (o_pf rfl h79 rfl) ?_
              refine r_u (o_as rfl) ?_
              refine r_nil ?_
              refine x_seq ?_
              refine c_ret ?_
              obtain rfl := Option.some.inj hm80
              refine ex_st (fun _ h => st_pk 6 [] (by decide) h) ?_
              exact x_r1 rfl (rv_t rfl) (Le.refl _) ⟨_, rfl, rfl, rfl, rfl⟩
          · have hm76 := iff_ hm74 h75
            clear hm74
            refine c_reg ?_
            refine r_u (o_mv rfl) ?_
            refine r_u (o_bin rfl rfl (bI_eq r0.2 0)) ?_
            refine r_u (o_mv rfl) ?_
            refine r_s (s_gt rfl rfl fun g => o_mv rfl) ?_
            refine r_s (s_gt rfl rfl fun g => o_lenO 0 Try.underlying23 (evg rfl g) rfl) ?_
            refine r_s (s_gt rfl rfl fun g => o_bin (evg rfl g) rfl (bI_eq (r53.1.length : Int) 1)) ?_
            refine r_u (o_and rfl rfl) ?_
            refine r_u (o_mv rfl) ?_
            refine r_s (s_y rfl rfl h63 (o_mv rfl)) ?_
            refine r_s (s_y rfl rfl h63 (o_ixO 0 Try.underlying23 (fun _ => by kernel_rfl) rfl rfl rfl hx65)) ?_
            refine r_s (s_y rfl rfl h63 (o_ldO0 0 sc9 rfl rfl hx65 rfl rfl)) ?_
            refine r_s (s_y rfl rfl h63 (o_bin rfl rfl (bS_eq x65 [121]))) ?_
            refine r_u (o_pt rfl h63 rfl) ?_
            refine r_u (o_mv rfl) ?_
            refine r_s (s_y rfl rfl h67 (o_mv rfl)) ?_
            refine rl_st (fun _ h => st_pk 6 [1, 2, 3, 0, 4, 5] (by decide) h) ?_
            refine r_c (s_yw rfl rfl h67 (o_call ca32 rfl (tiny_Tiny_Has.ok b6 r53.2 (⟨(pv57, g58), (pv60, g61)⟩ : tiny_Tiny.G) [120] r69 hr69))) ?_
            refine r_u (o_pt rfl h67 rfl) ?_
            refine r_u (o_mv rfl) ?_
            refine r_s (s_y rfl rfl h71 (o_mv rfl)) ?_
            refine r_c (s_yw rfl rfl h71 (o_call ca32 rfl (tiny_Tiny_Has.ok b6 r53.2 (⟨(pv57, g58), (pv60, g61)⟩ : tiny_Tiny.G) [122] r73 hr73))) ?_
            refine r_u (o_pt rfl h71 rfl) ?_
            refine r_u (o_mv rfl) ?_
            refine r_s (s_n rfl rfl h75) ?_
            refine r_s (s_n rfl rfl h75) ?_
            refine r_s (s_n rfl rfl h75) ?_
            refine r_u (o_pf rfl h75 rfl) ?_
            refine r_u (o_mv rfl) ?_
            refine r_s (s_n rfl rfl rfl) ?_
            refine r_s (s_n rfl rfl rfl) ?_
            refine r_s (s_n rfl rfl rfl) ?_
            refine r_u (o_pf rfl rfl rfl) ?_
            refine r_u (o_as rfl) ?_
            refine r_nil ?_
            refine x_seq ?_
            refine c_ret ?_
            obtain rfl := Option.some.inj hm76
            refine ex_st (fun _ h => st_pk 6 [] (by decide) h) ?_
            exact x_r1 rfl (rv_t rfl) (Le.refl _) ⟨_, rfl, rfl, rfl, rfl⟩
        · have hm72 := iff_ hm70 h71
          clear hm70
          refine c_reg ?_
          refine r_u (o_mv rfl) ?_
          refine r_u (o_bin rfl rfl (bI_eq r0.2 0)) ?_
          refine r_u (o_mv rfl) ?_
          refine r_s (s_gt rfl rfl fun g => o_mv rfl) ?_
          refine r_s (s_gt rfl rfl fun g => o_lenO 0 Try.underlying23 (evg rfl g) rfl) ?_
          refine r_s (s_gt rfl rfl fun g => o_bin (evg rfl g) rfl (bI_eq (r53.1.length : Int) 1)) ?_
          refine r_u (o_and rfl rfl) ?_
          refine r_u (o_mv rfl) ?_
          refine r_s (s_y rfl rfl h63 (o_mv rfl)) ?_
          refine r_s (s_y rfl rfl h63 (o_ixO 0 Try.underlying23 (fun _ => by kernel_rfl) rfl rfl rfl hx65)) ?_
          refine r_s (s_y rfl rfl h63 (o_ldO0 0 sc9 rfl rfl hx65 rfl rfl)) ?_
          refine r_s (s_y rfl rfl h63 (o_bin rfl rfl (bS_eq x65 [121]))) ?_
          refine r_u (o_pt rfl h63 rfl) ?_
          refine r_u (o_mv rfl) ?_
          refine r_s (s_y rfl rfl h67 (o_mv rfl)) ?_
          refine rl_st (fun _ h => st_pk 6 [1, 2, 3, 0, 4, 5] (by decide) h) ?_
          refine r_c (s_yw rfl rfl h67 (o_call ca32 rfl (tiny_Tiny_Has.ok b6 r53.2 (⟨(pv57, g58), (pv60, g61)⟩ : tiny_Tiny.G) [120] r69 hr69))) ?_
          refine r_u (o_pt rfl h67 rfl) ?_
          refine r_u (o_mv rfl) ?_
          refine r_s (s_n rfl rfl h71) ?_
          refine r_s (s_n rfl rfl h71) ?_
          refine r_u (o_pf rfl h71 rfl) ?_
          refine r_u (o_mv rfl) ?_
          refine r_s (s_n rfl rfl rfl) ?_
          refine r_s (s_n rfl rfl rfl) ?_
          refine r_s (s_n rfl rfl rfl) ?_
          refine r_u (o_pf rfl rfl rfl) ?_
          refine r_u (o_mv rfl) ?_
          refine r_s (s_n rfl rfl rfl) ?_
          refine r_s (s_n rfl rfl rfl) ?_
          refine r_s (s_n rfl rfl rfl) ?_
          refine r_u (o_pf rfl rfl rfl) ?_
          refine r_u (o_as rfl) ?_
          refine r_nil ?_
          refine x_seq ?_
          refine c_ret ?_
          obtain rfl := Option.some.inj hm72
          refine ex_st (fun _ h => st_pk 6 [] (by decide) h) ?_
          exact x_r1 rfl (rv_t rfl) (Le.refl _) ⟨_, rfl, rfl, rfl, rfl⟩
      · have hm68 := iff_ hm66 h67
        clear hm66
        refine c_reg ?_
        refine r_u (o_mv rfl) ?_
        refine r_u (o_bin rfl rfl (bI_eq r0.2 0)) ?_
        refine r_u (o_mv rfl) ?_
        refine r_s (s_gt rfl rfl fun g => o_mv rfl) ?_
        refine r_s (s_gt rfl rfl fun g => o_lenO 0 Try.underlying23 (evg rfl g) rfl) ?_
        refine r_s (s_gt rfl rfl fun g => o_bin (evg rfl g) rfl (bI_eq (r53.1.length : Int) 1)) ?_
        refine r_u (o_and rfl rfl) ?_
        refine r_u (o_mv rfl) ?_
        refine r_s (s_y rfl rfl h63 (o_mv rfl)) ?_
        refine r_s (s_y rfl rfl h63 (o_ixO 0 Try.underlying23 (fun _ => by kernel_rfl) rfl rfl rfl hx65)) ?_
        refine r_s (s_y rfl rfl h63 (o_ldO0 0 sc9 rfl rfl hx65 rfl rfl)) ?_
        refine r_s (s_y rfl rfl h63 (o_bin rfl rfl (bS_eq x65 [121]))) ?_
        refine r_u (o_pt rfl h63 rfl) ?_
        refine r_u (o_mv rfl) ?_
        refine r_s (s_n rfl rfl h67) ?_
        refine r_s (s_n rfl rfl h67) ?_
        refine r_u (o_pf rfl h67 rfl) ?_
        refine r_u (o_mv rfl) ?_
        refine r_s (s_n rfl rfl rfl) ?_
        refine r_s (s_n rfl rfl rfl) ?_
        refine r_u (o_pf rfl rfl rfl) ?_
        refine r_u (o_mv rfl) ?_
        refine r_s (s_n rfl rfl rfl) ?_
        refine r_s (s_n rfl rfl rfl) ?_
        refine r_s (s_n rfl rfl rfl) ?_
        refine r_u (o_pf rfl rfl rfl) ?_
        refine r_u (o_mv rfl) ?_
        refine r_s (s_n rfl rfl rfl) ?_
        refine r_s (s_n rfl rfl rfl) ?_
        refine r_s (s_n rfl rfl rfl) ?_
        refine r_u (o_pf rfl rfl rfl) ?_
        refine r_u (o_as rfl) ?_
        refine r_nil ?_
        refine x_seq ?_
        refine c_ret ?_
        obtain rfl := Option.some.inj hm68
        refine ex_st (fun _ h => st_pk 6 [] (by decide) h) ?_
        exact x_r1 rfl (rv_t rfl) (Le.refl _) ⟨_, rfl, rfl, rfl, rfl⟩
    · have hm64 := iff_ hm62 h63
      clear hm62
      refine c_reg ?_
      refine r_u (o_mv rfl) ?_
      refine r_u (o_bin rfl rfl (bI_eq r0.2 0)) ?_
      refine r_u (o_mv rfl) ?_
      refine r_s (s_gt rfl rfl fun g => o_mv rfl) ?_
      refine r_s (s_gt rfl rfl fun g => o_lenO 0 Try.underlying23 (evg rfl g) rfl) ?_
      refine r_s (s_gt rfl rfl fun g => o_bin (evg rfl g) rfl (bI_eq (r53.1.length : Int) 1)) ?_
      refine r_u (o_and rfl rfl) ?_
      refine r_u (o_mv rfl) ?_
      refine r_s (s_n rfl rfl h63) ?_
      refine r_s (s_n rfl rfl h63) ?_
      refine r_s (s_n rfl rfl h63) ?_
      refine r_s (s_n rfl rfl h63) ?_
      refine r_u (o_pf rfl h63 rfl) ?_
      refine r_u (o_mv rfl) ?_
      refine r_s (s_n rfl rfl rfl) ?_
      refine r_s (s_n rfl rfl rfl) ?_
      refine r_u (o_pf rfl rfl rfl) ?_
      refine r_u (o_mv rfl) ?_
      refine r_s (s_n rfl rfl rfl) ?_
      refine r_s (s_n rfl rfl rfl) ?_
      refine r_u (o_pf rfl rfl rfl) ?_
      refine r_u (o_mv rfl) ?_
      refine r_s (s_n rfl rfl rfl) ?_
      refine r_s (s_n rfl rfl rfl) ?_
      refine r_s (s_n rfl rfl rfl) ?_
      refine r_u (o_pf rfl rfl rfl) ?_
      refine r_u (o_mv rfl) ?_
      refine r_s (s_n rfl rfl rfl) ?_
      refine r_s (s_n rfl rfl rfl) ?_
      refine r_s (s_n rfl rfl rfl) ?_
      refine r_u (o_pf rfl rfl rfl) ?_
      refine r_u (o_as rfl) ?_
      refine r_nil ?_
      refine x_seq ?_
      refine c_ret ?_
      obtain rfl := Option.some.inj hm64
      refine ex_st (fun _ h => st_pk 6 [] (by decide) h) ?_
      exact x_r1 rfl (rv_t rfl) (Le.refl _) ⟨_, rfl, rfl, rfl, rfl⟩

end Go.Proofs.Ytlahbmoebbflbaa
