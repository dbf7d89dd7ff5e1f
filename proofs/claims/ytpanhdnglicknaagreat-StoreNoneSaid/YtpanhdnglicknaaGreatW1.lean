import Derived.Test.YtpanhdnglicknaaGreatW0
import Derived.Test.YtpanhdnglicknaaGreatFacts
import Derived.Test.YtpanhdnglicknaaGreatHwZ
set_option linter.unusedVariables false
set_option linter.unusedSectionVars false
set_option linter.unusedSimpArgs false
set_option maxRecDepth 100000
set_option maxHeartbeats 8000000
namespace Go.Proofs.YtpanhdnglicknaaGreat
open Go Go.Proofs.YtpanhdnglicknaaGreat.Hw
def ring_Rings_link (a0 : ring_Rings) (a1 : Int) (a2 : Int) : Option ring_Rings :=
  (gi a0.slots a1).bind fun x4 => (gi a0.slots a2).bind fun x6 => (gi (ls a0.slots a1 (⟨x4.key, a2, x4.prev, x4.next⟩ : ring_slot)) a1).bind fun x8 => (gi (ls (ls a0.slots a1 (⟨x4.key, a2, x4.prev, x4.next⟩ : ring_slot)) a1 (⟨x8.key, x8.list, a2, x8.next⟩ : ring_slot)) a1).bind fun x10 => (gi (ls (ls (ls a0.slots a1 (⟨x4.key, a2, x4.prev, x4.next⟩ : ring_slot)) a1 (⟨x8.key, x8.list, a2, x8.next⟩ : ring_slot)) a1 (⟨x10.key, x10.list, x10.prev, x6.next⟩ : ring_slot)) a1).bind fun x12 => (gi (ls (ls (ls a0.slots a1 (⟨x4.key, a2, x4.prev, x4.next⟩ : ring_slot)) a1 (⟨x8.key, x8.list, a2, x8.next⟩ : ring_slot)) a1 (⟨x10.key, x10.list, x10.prev, x6.next⟩ : ring_slot)) x12.next).bind fun x14 => (gi (ls (ls (ls (ls a0.slots a1 (⟨x4.key, a2, x4.prev, x4.next⟩ : ring_slot)) a1 (⟨x8.key, x8.list, a2, x8.next⟩ : ring_slot)) a1 (⟨x10.key, x10.list, x10.prev, x6.next⟩ : ring_slot)) x12.next (⟨x14.key, x14.list, a1, x14.next⟩ : ring_slot)) a2).bind fun x16 => (gi a0.many a2).bind fun x18 => some (⟨a0.lists, ls (ls (ls (ls (ls a0.slots a1 (⟨x4.key, a2, x4.prev, x4.next⟩ : ring_slot)) a1 (⟨x8.key, x8.list, a2, x8.next⟩ : ring_slot)) a1 (⟨x10.key, x10.list, x10.prev, x6.next⟩ : ring_slot)) x12.next (⟨x14.key, x14.list, a1, x14.next⟩ : ring_slot)) a2 (⟨x16.key, x16.list, x16.prev, a1⟩ : ring_slot), a0.free, a0.at_, ls a0.many a2 (i64 (x18 + 1))⟩ : ring_Rings)
theorem ring_Rings_link.ok {G R F} (b0_ : Nat) (a0 : ring_Rings) (g0_ : ring_Rings.G) (a1 : Int) (a2 : Int) (r : ring_Rings) (hm : ring_Rings_link a0 a1 a2 = some r) : CO Tryz.prog 211 [pt b0_ 0, vI a1, vI a2] G R (Bk b0_ 237 [vI a0.lists, g0_.slots, g0_.free, g0_.at_, g0_.many] :: OwS true 240 4 ring_slot.c g0_.slots a0.slots :: OwS true 3 1 eI g0_.free a0.free :: OwM vS vI g0_.at_ a0.at_ :: OwS true 3 1 eI g0_.many a0.many :: F)
    (Ret fun u R' L' => u = .tuple #[] ∧ R' = R ∧ L' = Bk b0_ 237 [vI r.lists, g0_.slots, g0_.free, g0_.at_, g0_.many] :: OwS true 240 4 ring_slot.c g0_.slots r.slots :: OwS true 3 1 eI g0_.free r.free :: OwM vS vI g0_.at_ r.at_ :: OwS true 3 1 eI g0_.many r.many :: F) := by
  unfold ring_Rings_link at hm
  refine co_ofN (N := 60) Tryz.func211 rfl rfl ?_
  refine c_seq ?_
  refine c_reg ?_
  refine r_u (o_mv rfl) ?_
  refine r_u (o_nc rfl) ?_
  refine r_u (o_fa fa237_1 rfl) ?_
  refine r_u (o_ld 0 sc233 rfl rfl rfl) ?_
  refine r_u (o_mv rfl) ?_
  obtain ⟨x4, hx4, hm5⟩ := bs hm
  clear hm
  refine r_u (o_ixO 1 Tryz.underlying233 (fun _ => by kernel_rfl) rfl rfl rfl hx4) ?_
  refine r_u (o_as rfl) ?_
  refine r_nil ?_
  refine x_seq ?_
  refine c_seq ?_
  refine c_reg ?_
  refine r_u (o_mv rfl) ?_
  refine r_u (o_mv rfl) ?_
  refine r_u (o_mv rfl) ?_
  refine r_u (o_mv rfl) ?_
  refine r_u (o_mv rfl) ?_
  refine r_u (o_mv rfl) ?_
  refine r_u (o_nc rfl) ?_
  refine r_u (o_fa fa237_1 rfl) ?_
  refine r_u (o_ld 0 sc233 rfl rfl rfl) ?_
  refine r_u (o_mv rfl) ?_
  obtain ⟨x6, hx6, hm7⟩ := bs hm5
  clear hm5
  refine r_u (o_ixO 1 Tryz.underlying233 (fun _ => by kernel_rfl) rfl rfl rfl hx6) ?_
  refine r_u (o_fa fa240_3 rfl) ?_
  refine r_u (o_ldO 1 3 sc3 rfl rfl hx6 rfl rfl) ?_
  refine r_u (o_nc rfl) ?_
  refine r_u (o_fa fa240_1 rfl) ?_
  refine rl_st (fun _ h => mv1 h) ?_
  refine r_u0 (o_stO (c' := (⟨x4.key, a2, x4.prev, x4.next⟩ : ring_slot)) 1 sc3 rfl rfl rfl hx4 rfl rfl rfl) ?_
  refine r_u (o_nc rfl) ?_
  refine r_u (o_fa fa240_2 rfl) ?_
  obtain ⟨x8, hx8, hm9⟩ := bs hm7
  clear hm7
  refine r_u0 (o_stO (c' := (⟨x8.key, x8.list, a2, x8.next⟩ : ring_slot)) 2 sc3 rfl rfl rfl hx8 rfl rfl rfl) ?_
  refine r_u (o_nc rfl) ?_
  refine r_u (o_fa fa240_3 rfl) ?_
  obtain ⟨x10, hx10, hm11⟩ := bs hm9
  clear hm9
  refine r_u0 (o_stO (c' := (⟨x10.key, x10.list, x10.prev, x6.next⟩ : ring_slot)) 3 sc3 rfl rfl rfl hx10 rfl rfl rfl) ?_
  refine r_nil ?_
  refine x_seq ?_
  refine c_seq ?_
  obtain ⟨x12, hx12, hm13⟩ := bs hm11
  clear hm11
  obtain ⟨x14, hx14, hm15⟩ := bs hm13
  clear hm13
  obtain ⟨x16, hx16, hm17⟩ := bs hm15
  clear hm15
  refine c_any mixed (effs := [17, 20]) (V := []) ?_
  refine stage_ext [(0, pt b0_ 0), (1, pt b0_ 0), (2, pt b0_ 1), (3, g0_.slots), (4, pt (sb g0_.slots) (so g0_.slots + a1.toNat * 4)), (5, pt (sb g0_.slots) (so g0_.slots + a1.toNat * 4)), (6, pt (sb g0_.slots) (so g0_.slots + a1.toNat * 4 + 3)), (7, vI x12.next), (8, pt b0_ 0), (9, pt b0_ 0), (10, pt b0_ 1), (11, g0_.slots), (12, vI a2), (13, vI a1), (14, vI a1), (15, pt (sb g0_.slots) (so g0_.slots + x12.next.toNat * 4)), (16, pt (sb g0_.slots) (so g0_.slots + x12.next.toNat * 4 + 2))] rfl ?_
  refine stage rfl rfl rfl rfl [0, 1, 3, 7, 0, 16, 48, 112, 0, 256, 768, 1792, 0, 0, 0, 12287, 45055, 110591, 262143, 524287, 1048575] [0, 1, 2, 3, 4, 5, 6, 7, 8, 9, 10, 11, 12, 13, 14, 15, 16] [17] rfl rfl rfl (qc rfl rfl (s_u (o_mv rfl)) (qc rfl rfl (s_u (o_nc rfl)) (qc rfl rfl (s_u (o_fa fa237_1 rfl)) (qc rfl rfl (s_u (o_ld 1 sc233 rfl rfl rfl)) (qc rfl rfl (s_u (o_mv rfl)) (qc rfl rfl (s_u (o_nc rfl)) (qc rfl rfl (s_u (o_fa fa240_3 rfl)) (qc rfl rfl (s_u (o_ldO 0 3 sc3 rfl rfl hx12 rfl rfl)) (qc rfl rfl (s_u (o_mv rfl)) (qc rfl rfl (s_u (o_nc rfl)) (qc rfl rfl (s_u (o_fa fa237_1 rfl)) (qc rfl rfl (s_u (o_ld 1 sc233 rfl rfl rfl)) (qc rfl rfl (s_u (o_mv rfl)) (qc rfl rfl (s_u (o_mv rfl)) (qc rfl rfl (s_u (o_mv rfl)) (qc rfl rfl (s_u (o_ixO 0 Tryz.underlying233 (fun _ => by kernel_rfl) rfl rfl rfl hx14)) (qc rfl rfl (s_u (o_fa fa240_2 rfl)) qn))))))))))))))))) ?_ (fun h => absurd h (by decide))
  refine ec (eo_u rfl (s_u (o_stO (c' := (⟨x14.key, x14.list, a1, x14.next⟩ : ring_slot)) 2 sc3 rfl rfl rfl hx14 rfl rfl rfl)) (Le.refl _) ?_) en
  refine stage_ext [(18, pt (sb g0_.slots) (so g0_.slots + a2.toNat * 4)), (19, pt (sb g0_.slots) (so g0_.slots + a2.toNat * 4 + 3))] rfl ?_
  refine stage rfl rfl rfl rfl [0, 1, 3, 7, 0, 16, 48, 112, 0, 256, 768, 1792, 0, 0, 0, 12287, 45055, 110591, 262143, 524287, 1048575] [12, 14, 18, 19] [20] rfl rfl rfl (qc rfl rfl (s_u (o_mv rfl)) (qc rfl rfl (s_u (o_mv rfl)) (qc rfl rfl (s_u (o_ixO 0 Tryz.underlying233 (fun _ => by kernel_rfl) rfl rfl rfl hx16)) (qc rfl rfl (s_u (o_fa fa240_3 rfl)) qn)))) ?_ (fun h => absurd h (by decide))
  refine ec (eo_u rfl (s_u (o_stO (c' := (⟨x16.key, x16.list, x16.prev, a1⟩ : ring_slot)) 3 sc3 rfl rfl rfl hx16 rfl rfl rfl)) (Le.refl _) ?_) en
  refine stage rfl rfl rfl rfl [0, 1, 3, 7, 0, 16, 48, 112, 0, 256, 768, 1792, 0, 0, 0, 12287, 45055, 110591, 262143, 524287, 1048575] [] [] rfl rfl rfl qn en ?_
  intro _
  refine ex_sub (E' := [(0, pt b0_ 0), (2, vI a2)]) ⟨rfl, rfl, trivial⟩ ?_
  refine x_seq ?_
  refine c_reg ?_
  refine r_u (o_mv rfl) ?_
  refine r_u (o_nc rfl) ?_
  refine r_u (o_fa fa237_4 rfl) ?_
  refine r_u (o_ld 1 sc234 rfl rfl rfl) ?_
  refine r_u (o_mv rfl) ?_
  obtain ⟨x18, hx18, hm19⟩ := bs hm17
  clear hm17
  refine r_u (o_ixO 4 Tryz.underlying234 (fun _ => by kernel_rfl) rfl rfl rfl hx18) ?_
  refine r_u (o_ldO0 4 sc3 rfl rfl hx18 rfl rfl) ?_
  refine r_u (o_bin rfl rfl (bI_add x18 1)) ?_
  refine r_u (o_ixO 4 Tryz.underlying234 (fun _ => by kernel_rfl) rfl rfl rfl hx18) ?_
  refine rl_st (fun _ h => mv4 h) ?_
  refine r_u0 (o_stO0 (c' := i64 (x18 + 1)) sc3 rfl rfl rfl hx18 rfl rfl rfl) ?_
  refine r_nil ?_
  refine x_end ?_
  obtain rfl := Option.some.inj hm19
  refine ex_st (fun _ h => st_pk 5 [2, 1, 3, 4, 0] (by decide) h) ?_
  exact x_r0 rfl (Le.refl _) ⟨_, rfl, rfl, rfl, rfl⟩

def ring_Rings_Front (a0 : ring_Rings) (a1 : Int) (a2 : Str) : Option (Bool × ring_Rings) :=
  if (!(ring_Rings_is a0 a1) || decide (64 < (a2.length : Int))) then some (false, a0) else if (mget a0.at_ a2).isSome then (ring_Rings_cut a0 ((mget a0.at_ a2).getD (0 : Int))).bind fun r8 => (ring_Rings_link r8 ((mget a0.at_ a2).getD (0 : Int)) a1).bind fun r10 => some (true, r10) else if ((a0.free.length : Int) == 0) then some (false, a0) else (gi a0.free (i64 ((a0.free.length : Int) - 1))).bind fun x14 => (sl a0.free 0 (i64 ((a0.free.length : Int) - 1))).bind fun l16 => (gi a0.slots x14).bind fun x18 => (ring_Rings_link (⟨a0.lists, ls a0.slots x14 (⟨a2, x18.list, x18.prev, x18.next⟩ : ring_slot), l16, mput a0.at_ a2 x14, a0.many⟩ : ring_Rings) x14 a1).bind fun r20 => some (true, r20)
theorem ring_Rings_Front.ok {G R F} (b0_ : Nat) (a0 : ring_Rings) (g0_ : ring_Rings.G) (a1 : Int) (a2 : Str) (r : Bool × ring_Rings) (hm : ring_Rings_Front a0 a1 a2 = some r) : CO Tryz.prog 163 [pt b0_ 0, vI a1, vS a2] G R (Bk b0_ 237 [vI a0.lists, g0_.slots, g0_.free, g0_.at_, g0_.many] :: OwS true 240 4 ring_slot.c g0_.slots a0.slots :: OwS true 3 1 eI g0_.free a0.free :: OwM vS vI g0_.at_ a0.at_ :: OwS true 3 1 eI g0_.many a0.many :: F)
    (Ret fun u R' L' => ∃ (q0 : ring_Rings.G), u = vB r.1 ∧ R' = R ∧ L' = Bk b0_ 237 [vI r.2.lists, q0.slots, q0.free, q0.at_, q0.many] :: OwS true 240 4 ring_slot.c q0.slots r.2.slots :: OwS true 3 1 eI q0.free r.2.free :: OwM vS vI q0.at_ r.2.at_ :: OwS true 3 1 eI q0.many r.2.many :: F) := by
  unfold ring_Rings_Front at hm
  refine co_ofN (N := 80) Tryz.func163 rfl rfl ?_
  refine c_seq ?_
  refine c_reg ?_
  refine r_u (o_as rfl) ?_
  refine r_nil ?_
  refine x_seq ?_
  refine c_seq ?_
  refine c_seq ?_
  refine c_reg ?_
  refine r_u (o_mv rfl) ?_
  refine r_u (o_mv rfl) ?_
  refine r_c (s_w (o_call ca210 rfl (ring_Rings_is.ok b0_ a0 g0_ a1 _ rfl))) ?_
  refine r_u (o_not rfl) ?_
  refine r_u (o_mv rfl) ?_
  refine r_s (s_gf rfl rfl fun g => o_mv rfl) ?_
  refine r_s (s_gf rfl rfl fun g => o_lenS Tryz.underlying9 (evg rfl g)) ?_
  refine r_s (s_gf rfl rfl fun g => o_bin (evg rfl g) rfl (bI_gt (a2.length : Int) 64)) ?_
  refine r_u (o_or rfl rfl) ?_
  refine r_nil ?_
  refine x_seq ?_
  refine c_if (b := (!(ring_Rings_is a0 a1) || decide (64 < (a2.length : Int)))) rfl (fun h4 => ?_) fun h4 => ?_
  · have hm5 := ift hm h4
    clear hm
    refine c_seq ?_
    refine c_reg ?_
    refine r_u (o_as rfl) ?_
    refine r_nil ?_
    refine x_seq ?_
    refine c_ret ?_
    obtain rfl := Option.some.inj hm5
    exact x_r1 rfl (rv_t rfl) (Le.refl _) ⟨_, rfl, g0_, rfl, rfl, rfl⟩
  · have hm5 := iff_ hm h4
    clear hm
    refine c_skip ?_
    refine x_seq ?_
    refine c_seq ?_
    refine c_seq ?_
    refine c_reg ?_
    refine r_u (o_mv rfl) ?_
    refine r_u (o_nc rfl) ?_
    refine r_u (o_fa fa237_3 rfl) ?_
    refine r_u (o_ld 0 sc235 rfl rfl rfl) ?_
    refine r_u (o_mv rfl) ?_
    refine r_u (o_lk (kv := vS) (vv := vI) (key := a2) (z0 := (0 : Int)) 3 Tryz.underlying235 (kok_S Tryz.underlying9) (fun _ => by kernel_rfl) rfl rfl rfl) ?_
    refine r_u (o_mv rfl) ?_
    refine r_u (o_ext rfl rfl) ?_
    refine r_u (o_ext rfl rfl) ?_
    refine r_u (o_as rfl) ?_
    refine r_u (o_as rfl) ?_
    refine r_nil ?_
    refine x_seq ?_
    refine c_seq ?_
    refine c_reg ?_
    refine r_u (o_mv rfl) ?_
    refine r_nil ?_
    refine x_seq ?_
    refine c_if (b := (mget a0.at_ a2).isSome) rfl (fun h6 => ?_) fun h6 => ?_
    · have hm7 := ift hm5 h6
      clear hm5
      refine c_seq ?_
      refine c_reg ?_
      refine r_u (o_mv rfl) ?_
      refine r_u (o_mv rfl) ?_
      obtain ⟨r8, hr8, hm9⟩ := bs hm7
      clear hm7
      refine r_c (s_w (o_call ca161 rfl (ring_Rings_cut.ok b0_ a0 g0_ ((mget a0.at_ a2).getD (0 : Int)) r8 hr8))) ?_
      refine r_nil ?_
      refine x_seq ?_
      refine c_seq ?_
      refine c_reg ?_
      refine r_u (o_mv rfl) ?_
      refine r_u (o_mv rfl) ?_
      refine r_u (o_mv rfl) ?_
      obtain ⟨r10, hr10, hm11⟩ := bs hm9
      clear hm9
      refine r_c (s_w (o_call ca211 rfl (ring_Rings_link.ok b0_ r8 g0_ ((mget a0.at_ a2).getD (0 : Int)) a1 r10 hr10))) ?_
      refine r_nil ?_
      refine x_seq ?_
      refine c_seq ?_
      refine c_reg ?_
      refine r_u (o_as rfl) ?_
      refine r_nil ?_
      refine x_seq ?_
      refine c_ret ?_
      obtain rfl := Option.some.inj hm11
      exact x_r1 rfl (rv_t rfl) (Le.refl _) ⟨_, rfl, g0_, rfl, rfl, rfl⟩
    · have hm7 := iff_ hm5 h6
      clear hm5
      refine c_skip ?_
      refine x_seq ?_
      refine c_seq ?_
      refine c_reg ?_
      refine r_u (o_mv rfl) ?_
      refine r_u (o_nc rfl) ?_
      refine r_u (o_fa fa237_2 rfl) ?_
      refine r_u (o_ld 0 sc234 rfl rfl rfl) ?_
      refine r_u (o_lenO 2 Tryz.underlying234 rfl rfl) ?_
      refine r_u (o_as rfl) ?_
      refine r_nil ?_
      refine x_seq ?_
      refine c_seq ?_
      refine c_seq ?_
      refine c_reg ?_
      refine r_u (o_mv rfl) ?_
      refine r_u (o_bin rfl rfl (bI_eq (a0.free.length : Int) 0)) ?_
      refine r_nil ?_
      refine x_seq ?_
      refine c_if (b := ((a0.free.length : Int) == 0)) rfl (fun h12 => ?_) fun h12 => ?_
      · have hm13 := ift hm7 h12
        clear hm7
        refine c_seq ?_
        refine c_reg ?_
        refine r_u (o_as rfl) ?_
        refine r_nil ?_
        refine x_seq ?_
        refine c_ret ?_
        obtain rfl := Option.some.inj hm13
        exact x_r1 rfl (rv_t rfl) (Le.refl _) ⟨_, rfl, g0_, rfl, rfl, rfl⟩
      · have hm13 := iff_ hm7 h12
        clear hm7
        refine c_skip ?_
        refine x_seq ?_
        refine c_seq ?_
        refine c_reg ?_
        refine r_u (o_mv rfl) ?_
        refine r_u (o_nc rfl) ?_
        refine r_u (o_fa fa237_2 rfl) ?_
        refine r_u (o_ld 0 sc234 rfl rfl rfl) ?_
        refine r_u (o_mv rfl) ?_
        refine r_u (o_bin rfl rfl (bI_sub (a0.free.length : Int) 1)) ?_
        obtain ⟨x14, hx14, hm15⟩ := bs hm13
        clear hm13
        refine r_u (o_ixO 2 Tryz.underlying234 (fun _ => by kernel_rfl) rfl rfl rfl hx14) ?_
        refine r_u (o_ldO0 2 sc3 rfl rfl hx14 rfl rfl) ?_
        refine r_u (o_as rfl) ?_
        refine r_nil ?_
        refine x_seq ?_
        refine c_seq ?_
        refine c_reg ?_
        refine r_u (o_mv rfl) ?_
        refine r_u (o_mv rfl) ?_
        refine r_u (o_nc rfl) ?_
        refine r_u (o_fa fa237_2 rfl) ?_
        refine r_u (o_ld 0 sc234 rfl rfl rfl) ?_
        refine r_u (o_mv rfl) ?_
        refine r_u (o_bin rfl rfl (bI_sub (a0.free.length : Int) 1)) ?_
        obtain ⟨l16, hl16, hm17⟩ := bs hm15
        clear hm15
        refine rl_st (fun _ h => mv2 h) ?_
        refine r_u (o_slO Tryz.underlying234 (fun _ => by kernel_rfl) rfl rfl rfl hl16) ?_
        refine r_u (o_nc rfl) ?_
        refine r_u (o_fa fa237_2 rfl) ?_
        refine rl_st (fun _ h => mv1 h) ?_
        refine r_u0 (ou_if (one_o 1 rfl) fun ho0 => o_st sc234 rfl rfl rfl ho0 rfl rfl) ?_
        refine r_nil ?_
        refine x_seq ?_
        refine c_seq ?_
        refine c_reg ?_
        refine r_u (o_mv rfl) ?_
        refine r_u (o_nc rfl) ?_
        refine r_u (o_fa fa237_1 rfl) ?_
        refine r_u (o_ld 0 sc233 rfl rfl rfl) ?_
        refine r_u (o_mv rfl) ?_
        refine r_u (o_mv rfl) ?_
        obtain ⟨x18, hx18, hm19⟩ := bs hm17
        clear hm17
        refine r_u (o_ixO 2 Tryz.underlying233 (fun _ => by kernel_rfl) rfl rfl rfl hx18) ?_
        refine r_u (o_fa fa240_0 rfl) ?_
        refine rl_st (fun _ h => mv2 h) ?_
        refine r_u0 (o_stO0 (c' := (⟨a2, x18.list, x18.prev, x18.next⟩ : ring_slot)) sc9 rfl rfl rfl hx18 rfl rfl rfl) ?_
        refine r_nil ?_
        refine x_seq ?_
        refine c_seq ?_
        refine c_reg ?_
        refine r_u (o_mv rfl) ?_
        refine r_u (o_nc rfl) ?_
        refine r_u (o_fa fa237_3 rfl) ?_
        refine r_u (o_ld 1 sc235 rfl rfl rfl) ?_
        refine r_u (o_mv rfl) ?_
        refine r_u (o_mv rfl) ?_
        refine rl_st (fun _ h => mv3 h) ?_
        refine r_u0 (o_mu (kv := vS) (vv := vI) (key := a2) (val := x14) Tryz.underlying235 (kok_S Tryz.underlying9) rfl rfl rfl rfl) ?_
        refine r_nil ?_
        refine x_seq ?_
        refine c_seq ?_
        refine c_reg ?_
        refine r_u (o_mv rfl) ?_
        refine r_u (o_mv rfl) ?_
        refine r_u (o_mv rfl) ?_
        obtain ⟨r20, hr20, hm21⟩ := bs hm19
        clear hm19
        refine rl_st (fun _ h => mv4 (mv3 (mv4 (mv1 (mv4 h))))) ?_
        refine r_c (s_w (o_call ca211 rfl (ring_Rings_link.ok b0_ (⟨a0.lists, ls a0.slots x14 (⟨a2, x18.list, x18.prev, x18.next⟩ : ring_slot), l16, mput a0.at_ a2 x14, a0.many⟩ : ring_Rings) (⟨g0_.slots, (sh g0_.free (i64 ((a0.free.length : Int) - 1)).toNat), g0_.at_, g0_.many⟩ : ring_Rings.G) x14 a1 r20 hr20))) ?_
        refine r_nil ?_
        refine x_seq ?_
        refine c_seq ?_
        refine c_reg ?_
        refine r_u (o_as rfl) ?_
        refine r_nil ?_
        refine x_seq ?_
        refine c_ret ?_
        obtain rfl := Option.some.inj hm21
        exact x_r1 rfl (rv_t rfl) (Le.refl _) ⟨_, rfl, (⟨g0_.slots, (sh g0_.free (i64 ((a0.free.length : Int) - 1)).toNat), g0_.at_, g0_.many⟩ : ring_Rings.G), rfl, rfl, rfl⟩

def arc_Arc_Touch (a0 : arc_Arc) (a1 : Str) : Option (Bool × arc_Arc) :=
  (arc_Arc_Has a0 a1).bind fun r3 => if !r3 then some (false, a0) else om a0.r (none) fun x7 => (ring_Rings_Front x7 1 a1).bind fun r15 => some (r15.1, (⟨a0.most, a0.target, (some r15.2)⟩ : arc_Arc))
theorem arc_Arc_Touch.ok {G R F} (b0_ : Nat) (a0 : arc_Arc) (g0_ : arc_Arc.G) (a1 : Str) (r : Bool × arc_Arc) (hm : arc_Arc_Touch a0 a1 = some r) : CO Tryz.prog 120 [pt b0_ 0, vS a1] G R (Bk b0_ 193 [vI a0.most, vI a0.target, g0_.r.1] :: rO (ring_Rings.op g0_.r.2) g0_.r.1 a0.r :: F)
    (Ret fun u R' L' => ∃ (q0 : arc_Arc.G), u = vB r.1 ∧ R' = R ∧ L' = Bk b0_ 193 [vI r.2.most, vI r.2.target, q0.r.1] :: rO (ring_Rings.op q0.r.2) q0.r.1 r.2.r :: F) := by
  obtain ⟨⟨pv1, g2⟩⟩ := g0_
  unfold arc_Arc_Touch at hm
  refine co_ofN (N := 15) Tryz.func120 rfl rfl ?_
  refine c_seq ?_
  refine c_reg ?_
  refine r_u (o_as rfl) ?_
  refine r_nil ?_
  refine x_seq ?_
  refine c_seq ?_
  refine c_seq ?_
  refine c_reg ?_
  refine r_u (o_mv rfl) ?_
  refine r_u (o_mv rfl) ?_
  obtain ⟨r3, hr3, hm4⟩ := bs hm
  clear hm
  refine r_c (s_w (o_call ca116 rfl (arc_Arc_Has.ok b0_ a0 (⟨(pv1, g2)⟩ : arc_Arc.G) a1 r3 hr3))) ?_
  refine r_u (o_not rfl) ?_
  refine r_nil ?_
  refine x_seq ?_
  refine c_if (b := !r3) rfl (fun h5 => ?_) fun h5 => ?_
  · have hm6 := ift hm4 h5
    clear hm4
    refine c_seq ?_
    refine c_reg ?_
    refine r_u (o_as rfl) ?_
    refine r_nil ?_
    refine x_seq ?_
    refine c_ret ?_
    obtain rfl := Option.some.inj hm6
    exact x_r1 rfl (rv_t rfl) (Le.refl _) ⟨_, rfl, (⟨(pv1, g2)⟩ : arc_Arc.G), rfl, rfl, rfl⟩
  · have hm6 := iff_ hm4 h5
    clear hm4
    refine c_skip ?_
    refine x_seq ?_
    refine c_seq ?_
    refine cd_st (fun _ h => mv1 h) ?_
    refine cd_opt (fun ho9 => ?_) (fun x7 b8 ho9 => ?_)
    · rintro rfl
      have hm10 := om_n hm6 ho9
      clear hm6
      cases hm10
    · rintro rfl
      have hm10 := om_s hm6 ho9
      clear hm6
      refine cd_st (fun _ h => st_star_o h) ?_
      refine c_reg ?_
      refine r_u (o_mv rfl) ?_
      refine r_u (o_nc rfl) ?_
      refine r_u (o_fa fa193_2 rfl) ?_
      refine r_u (o_ld 5 sc191 rfl rfl rfl) ?_
      refine r_u (o_mv rfl) ?_
      obtain ⟨r15, hr15, hm21⟩ := bs hm10
      clear hm10
      refine r_sw (s_w (o_call ca163 rfl (ring_Rings_Front.ok b8 x7 g2 1 a1 r15 hr15))) ?_
      rintro _ R _ _ ⟨g16, rfl, rfl, rfl⟩
      refine r_u (o_as rfl) ?_
      refine r_nil ?_
      refine x_seq ?_
      refine c_ret ?_
      refine ex_st (fun _ h => st_some (f := ring_Rings.op g16) (a := r15.2) (st_star_f (A := ring_Rings.fl b8 r15.2 g16) h)) ?_
      obtain rfl := Option.some.inj hm21
      refine ex_st (fun _ h => st_pk 2 [1, 0] (by decide) h) ?_
      exact x_r1 rfl (rv_t rfl) (Le.refl _) ⟨_, rfl, (⟨(pt b8 0, g16)⟩ : arc_Arc.G), rfl, rfl, rfl⟩

def ring_Rings_Len (a0 : ring_Rings) (a1 : Int) : Option Int :=
  if !(ring_Rings_is a0 a1) then some 0 else (gi a0.many a1).bind fun x6 => some x6
theorem ring_Rings_Len.ok {G R F} (b0_ : Nat) (a0 : ring_Rings) (g0_ : ring_Rings.G) (a1 : Int) (r : Int) (hm : ring_Rings_Len a0 a1 = some r) : CO Tryz.prog 164 [pt b0_ 0, vI a1] G R (Bk b0_ 237 [vI a0.lists, g0_.slots, g0_.free, g0_.at_, g0_.many] :: OwS true 240 4 ring_slot.c g0_.slots a0.slots :: OwS true 3 1 eI g0_.free a0.free :: OwM vS vI g0_.at_ a0.at_ :: OwS true 3 1 eI g0_.many a0.many :: F)
    (Ret fun u R' L' => u = vI r ∧ R' = R ∧ L' = Bk b0_ 237 [vI a0.lists, g0_.slots, g0_.free, g0_.at_, g0_.many] :: OwS true 240 4 ring_slot.c g0_.slots a0.slots :: OwS true 3 1 eI g0_.free a0.free :: OwM vS vI g0_.at_ a0.at_ :: OwS true 3 1 eI g0_.many a0.many :: F) := by
  unfold ring_Rings_Len at hm
  refine co_ofN (N := 16) Tryz.func164 rfl rfl ?_
  refine c_seq ?_
  refine c_reg ?_
  refine r_u (o_as rfl) ?_
  refine r_nil ?_
  refine x_seq ?_
  refine c_seq ?_
  refine c_seq ?_
  refine c_reg ?_
  refine r_u (o_mv rfl) ?_
  refine r_u (o_mv rfl) ?_
  refine r_c (s_w (o_call ca210 rfl (ring_Rings_is.ok b0_ a0 g0_ a1 _ rfl))) ?_
  refine r_u (o_not rfl) ?_
  refine r_nil ?_
  refine x_seq ?_
  refine c_if (b := !(ring_Rings_is a0 a1)) rfl (fun h4 => ?_) fun h4 => ?_
  · have hm5 := ift hm h4
    clear hm
    refine c_seq ?_
    refine c_reg ?_
    refine r_u (o_as rfl) ?_
    refine r_nil ?_
    refine x_seq ?_
    refine c_ret ?_
    obtain rfl := Option.some.inj hm5
    exact x_r1 rfl (rv_t rfl) (Le.refl _) ⟨_, rfl, rfl, rfl, rfl⟩
  · have hm5 := iff_ hm h4
    clear hm
    refine c_skip ?_
    refine x_seq ?_
    refine c_seq ?_
    refine c_reg ?_
    refine r_u (o_mv rfl) ?_
    refine r_u (o_nc rfl) ?_
    refine r_u (o_fa fa237_4 rfl) ?_
    refine r_u (o_ld 0 sc234 rfl rfl rfl) ?_
    refine r_u (o_mv rfl) ?_
    obtain ⟨x6, hx6, hm7⟩ := bs hm5
    clear hm5
    refine r_u (o_ixO 4 Tryz.underlying234 (fun _ => by kernel_rfl) rfl rfl rfl hx6) ?_
    refine r_u (o_ldO0 4 sc3 rfl rfl hx6 rfl rfl) ?_
    refine r_u (o_as rfl) ?_
    refine r_nil ?_
    refine x_seq ?_
    refine c_ret ?_
    obtain rfl := Option.some.inj hm7
    exact x_r1 rfl (rv_t rfl) (Le.refl _) ⟨_, rfl, rfl, rfl, rfl⟩

def tiny_Parts (a0 : Int) : api_Parts :=
  (⟨(if 1 < (i64 (a0.tdiv 8)) then i64 (a0.tdiv 8) else 1), i64 ((i64 ((i64 (a0 - (if 1 < (i64 (a0.tdiv 8)) then i64 (a0.tdiv 8) else 1))) * 4)).tdiv 5)⟩ : api_Parts)
theorem tiny_Parts.ok {G R F} (a0 : Int) (r : api_Parts) (hm : tiny_Parts a0 = r) : CO Tryz.prog 165 [vI a0] G R (F)
    (Ret fun u R' L' => u = .agg (api_Parts.c r).toArray ∧ R' = R ∧ L' = F) := by
  unfold tiny_Parts at hm
  refine co_ofN (N := 14) Tryz.func165 rfl rfl ?_
  refine c_seq ?_
  refine c_reg ?_
  refine r_new (o_al ze243) fun b0 => ?_
  refine r_nil ?_
  refine x_seq ?_
  refine c_seq ?_
  refine c_reg ?_
  refine r_u (o_mv rfl) ?_
  refine r_u (o_bin rfl rfl (bI_quo a0 8 (by decide))) ?_
  refine r_u (o_maxI rfl rfl) ?_
  refine r_u (o_as rfl) ?_
  refine r_nil ?_
  refine x_seq ?_
  refine c_seq ?_
  refine c_reg ?_
  refine r_u (o_mv rfl) ?_
  refine r_u (o_mv rfl) ?_
  refine r_u (o_mv rfl) ?_
  refine r_u (o_bin rfl rfl (bI_sub a0 (if 1 < (i64 (a0.tdiv 8)) then i64 (a0.tdiv 8) else 1))) ?_
  refine r_u (o_bin rfl rfl (bI_mul (i64 (a0 - (if 1 < (i64 (a0.tdiv 8)) then i64 (a0.tdiv 8) else 1))) 4)) ?_
  refine r_u (o_bin rfl rfl (bI_quo (i64 ((i64 (a0 - (if 1 < (i64 (a0.tdiv 8)) then i64 (a0.tdiv 8) else 1))) * 4)) 5 (by decide))) ?_
  refine r_u (o_bld [vI (if 1 < (i64 (a0.tdiv 8)) then i64 (a0.tdiv 8) else 1), vI (i64 ((i64 ((i64 (a0 - (if 1 < (i64 (a0.tdiv 8)) then i64 (a0.tdiv 8) else 1))) * 4)).tdiv 5))] rfl (fun _ => by kernel_rfl)) ?_
  refine r_u0 (o_stn ag243 rfl rfl rfl rfl rfl rfl rfl) ?_
  refine r_nil ?_
  refine x_seq ?_
  refine c_ret ?_
  subst hm
  exact x_d1 rfl (rv_n 0 [vI (if 1 < (i64 (a0.tdiv 8)) then i64 (a0.tdiv 8) else 1), vI (i64 ((i64 ((i64 (a0 - (if 1 < (i64 (a0.tdiv 8)) then i64 (a0.tdiv 8) else 1))) * 4)).tdiv 5))] ag243 rfl rfl rfl rfl) (fun _ h => st_pk 1 [] (by decide) h) (Le.refl _) ⟨_, rfl, rfl, rfl, rfl⟩

def ring_Rings_Back (a0 : ring_Rings) (a1 : Int) : Option (Str × Bool) :=
  (ring_Rings_Len a0 a1).bind fun r4 => if (r4 == 0) then some ([], false) else (gi a0.slots a1).bind fun x8 => (gi a0.slots x8.prev).bind fun x10 => some (x10.key, true)
theorem ring_Rings_Back.ok {G R F} (b0_ : Nat) (a0 : ring_Rings) (g0_ : ring_Rings.G) (a1 : Int) (r : Str × Bool) (hm : ring_Rings_Back a0 a1 = some r) : CO Tryz.prog 166 [pt b0_ 0, vI a1] G R (Bk b0_ 237 [vI a0.lists, g0_.slots, g0_.free, g0_.at_, g0_.many] :: OwS true 240 4 ring_slot.c g0_.slots a0.slots :: OwS true 3 1 eI g0_.free a0.free :: OwM vS vI g0_.at_ a0.at_ :: OwS true 3 1 eI g0_.many a0.many :: F)
    (Ret fun u R' L' => u = .tuple #[vS r.1, vB r.2] ∧ R' = R ∧ L' = Bk b0_ 237 [vI a0.lists, g0_.slots, g0_.free, g0_.at_, g0_.many] :: OwS true 240 4 ring_slot.c g0_.slots a0.slots :: OwS true 3 1 eI g0_.free a0.free :: OwM vS vI g0_.at_ a0.at_ :: OwS true 3 1 eI g0_.many a0.many :: F) := by
  unfold ring_Rings_Back at hm
  refine co_ofN (N := 25) Tryz.func166 rfl rfl ?_
  refine c_seq ?_
  refine c_reg ?_
  refine r_u (o_as rfl) ?_
  refine r_u (o_as rfl) ?_
  refine r_nil ?_
  refine x_seq ?_
  refine c_seq ?_
  refine c_seq ?_
  refine c_reg ?_
  refine r_u (o_mv rfl) ?_
  refine r_u (o_mv rfl) ?_
  obtain ⟨r4, hr4, hm5⟩ := bs hm
  clear hm
  refine r_c (s_w (o_call ca164 rfl (ring_Rings_Len.ok b0_ a0 g0_ a1 r4 hr4))) ?_
  refine r_u (o_bin rfl rfl (bI_eq r4 0)) ?_
  refine r_nil ?_
  refine x_seq ?_
  refine c_if (b := (r4 == 0)) rfl (fun h6 => ?_) fun h6 => ?_
  · have hm7 := ift hm5 h6
    clear hm5
    refine c_seq ?_
    refine c_reg ?_
    refine r_u (o_as rfl) ?_
    refine r_u (o_as rfl) ?_
    refine r_nil ?_
    refine x_seq ?_
    refine c_ret ?_
    obtain rfl := Option.some.inj hm7
    exact x_r2 rfl (rv_t rfl) (rv_t rfl) (Le.refl _) ⟨_, rfl, rfl, rfl, rfl⟩
  · have hm7 := iff_ hm5 h6
    clear hm5
    refine c_skip ?_
    refine x_seq ?_
    refine c_seq ?_
    obtain ⟨x8, hx8, hm9⟩ := bs hm7
    clear hm7
    obtain ⟨x10, hx10, hm11⟩ := bs hm9
    clear hm9
    refine c_any mixed (effs := []) (V := []) ?_
    refine stage_ext [(0, pt b0_ 0), (1, pt b0_ 0), (2, pt b0_ 1), (3, g0_.slots), (4, pt b0_ 0), (5, pt b0_ 0), (6, pt b0_ 1), (7, g0_.slots), (8, vI a1), (9, pt (sb g0_.slots) (so g0_.slots + a1.toNat * 4)), (10, pt (sb g0_.slots) (so g0_.slots + a1.toNat * 4 + 2)), (11, vI x8.prev), (12, pt (sb g0_.slots) (so g0_.slots + x8.prev.toNat * 4)), (13, pt (sb g0_.slots) (so g0_.slots + x8.prev.toNat * 4)), (14, vS x10.key), (15, vS x10.key), (16, vB true)] rfl ?_
    refine stage rfl rfl rfl rfl [0, 1, 3, 7, 0, 16, 48, 112, 0, 496, 1008, 2032, 4095, 8191, 16383, 32767, 65535] [0, 1, 2, 3, 4, 5, 6, 7, 8, 9, 10, 11, 12, 13, 14, 15, 16] [] rfl rfl rfl (qc rfl rfl (s_u (o_mv rfl)) (qc rfl rfl (s_u (o_nc rfl)) (qc rfl rfl (s_u (o_fa fa237_1 rfl)) (qc rfl rfl (s_u (o_ld 0 sc233 rfl rfl rfl)) (qc rfl rfl (s_u (o_mv rfl)) (qc rfl rfl (s_u (o_nc rfl)) (qc rfl rfl (s_u (o_fa fa237_1 rfl)) (qc rfl rfl (s_u (o_ld 0 sc233 rfl rfl rfl)) (qc rfl rfl (s_u (o_mv rfl)) (qc rfl rfl (s_u (o_ixO 1 Tryz.underlying233 (fun _ => by kernel_rfl) rfl rfl rfl hx8)) (qc rfl rfl (s_u (o_fa fa240_2 rfl)) (qc rfl rfl (s_u (o_ldO 1 2 sc3 rfl rfl hx8 rfl rfl)) (qc rfl rfl (s_u (o_ixO 1 Tryz.underlying233 (fun _ => by kernel_rfl) rfl rfl rfl hx10)) (qc rfl rfl (s_u (o_fa fa240_0 rfl)) (qc rfl rfl (s_u (o_ldO0 1 sc9 rfl rfl hx10 rfl rfl)) (qc rfl rfl (s_u (o_as rfl)) (qc rfl rfl (s_u (o_as rfl)) qn))))))))))))))))) en ?_
    intro _
    refine ex_sub (E' := [(4, vS x10.key), (5, vB true)]) ⟨rfl, rfl, trivial⟩ ?_
    refine x_seq ?_
    refine c_ret ?_
    obtain rfl := Option.some.inj hm11
    exact x_r2 rfl (rv_t rfl) (rv_t rfl) (Le.refl _) ⟨_, rfl, rfl, rfl, rfl⟩

def tiny_Tiny_Touch (a0 : tiny_Tiny) (a1 : Str) : Option (Bool × tiny_Tiny) :=
  (tiny_Tiny_Has a0 a1).bind fun r6 => if !r6 then some (false, a0) else om a0.s (none) fun x10 => (sketch_Sketch_Add x10 a1).bind fun r16 => om a0.r (none) fun x18 => (ring_Rings_In x18 a1).bind fun r26 => if (r26.1 == 0) then (ring_Rings_Front x18 0 a1).bind fun r30 => some (r30.1, (⟨a0.most, (some r16), (some r30.2)⟩ : tiny_Tiny)) else (ring_Rings_Front x18 2 a1).bind fun r37 => (ring_Rings_Len r37.2 2).bind fun r44 => if decide (((tiny_Parts a0.most).Protected) < r44) then (ring_Rings_Back r37.2 2).bind fun r48 => (ring_Rings_Front r37.2 1 r48.1).bind fun r50 => some (true, (⟨a0.most, (some r16), (some r50.2)⟩ : tiny_Tiny)) else some (true, (⟨a0.most, (some r16), (some r37.2)⟩ : tiny_Tiny))
theorem tiny_Tiny_Touch.ok {G R F} (b0_ : Nat) (a0 : tiny_Tiny) (g0_ : tiny_Tiny.G) (a1 : Str) (r : Bool × tiny_Tiny) (hm : tiny_Tiny_Touch a0 a1 = some r) : CO Tryz.prog 121 [pt b0_ 0, vS a1] G R (Bk b0_ 196 [vI a0.most, g0_.s.1, g0_.r.1] :: rO (sketch_Sketch.op g0_.s.2) g0_.s.1 a0.s :: rO (ring_Rings.op g0_.r.2) g0_.r.1 a0.r :: F)
    (Ret fun u R' L' => ∃ (q0 : tiny_Tiny.G), u = vB r.1 ∧ R' = R ∧ L' = Bk b0_ 196 [vI r.2.most, q0.s.1, q0.r.1] :: rO (sketch_Sketch.op q0.s.2) q0.s.1 r.2.s :: rO (ring_Rings.op q0.r.2) q0.r.1 r.2.r :: F) := by
  obtain ⟨⟨pv1, g2⟩, ⟨pv4, g5⟩⟩ := g0_
  unfold tiny_Tiny_Touch at hm
  refine co_ofN (N := 68) Tryz.func121 rfl rfl ?_
  refine c_seq ?_
  refine c_reg ?_
  refine r_u (o_as rfl) ?_
  refine r_nil ?_
  refine x_seq ?_
  refine c_seq ?_
  refine c_seq ?_
  refine c_reg ?_
  refine r_u (o_mv rfl) ?_
  refine r_u (o_mv rfl) ?_
  obtain ⟨r6, hr6, hm7⟩ := bs hm
  clear hm
  refine r_c (s_w (o_call ca118 rfl (tiny_Tiny_Has.ok b0_ a0 (⟨(pv1, g2), (pv4, g5)⟩ : tiny_Tiny.G) a1 r6 hr6))) ?_
  refine r_u (o_not rfl) ?_
  refine r_nil ?_
  refine x_seq ?_
  refine c_if (b := !r6) rfl (fun h8 => ?_) fun h8 => ?_
  · have hm9 := ift hm7 h8
    clear hm7
    refine c_seq ?_
    refine c_reg ?_
    refine r_u (o_as rfl) ?_
    refine r_nil ?_
    refine x_seq ?_
    refine c_ret ?_
    obtain rfl := Option.some.inj hm9
    exact x_r1 rfl (rv_t rfl) (Le.refl _) ⟨_, rfl, (⟨(pv1, g2), (pv4, g5)⟩ : tiny_Tiny.G), rfl, rfl, rfl⟩
  · have hm9 := iff_ hm7 h8
    clear hm7
    refine c_skip ?_
    refine x_seq ?_
    refine c_seq ?_
    refine cd_st (fun _ h => mv1 h) ?_
    refine cd_opt (fun ho12 => ?_) (fun x10 b11 ho12 => ?_)
    · rintro rfl
      have hm13 := om_n hm9 ho12
      clear hm9
      cases hm13
    · rintro rfl
      have hm13 := om_s hm9 ho12
      clear hm9
      refine cd_st (fun _ h => st_star_o h) ?_
      refine c_reg ?_
      refine r_u (o_mv rfl) ?_
      refine r_u (o_nc rfl) ?_
      refine r_u (o_fa fa196_1 rfl) ?_
      refine r_u (o_ld 3 sc194 rfl rfl rfl) ?_
      refine r_u (o_mv rfl) ?_
      obtain ⟨r16, hr16, hm17⟩ := bs hm13
      clear hm13
      refine r_c (s_w (o_call ca162 rfl (sketch_Sketch_Add.ok b11 x10 g2 a1 r16 hr16))) ?_
      refine r_nil ?_
      refine x_seq ?_
      refine c_seq ?_
      refine cd_st (fun _ h => mv4 h) ?_
      refine cd_opt (fun ho20 => ?_) (fun x18 b19 ho20 => ?_)
      · rintro rfl
        have hm21 := om_n hm17 ho20
        clear hm17
        cases hm21
      · rintro rfl
        have hm21 := om_s hm17 ho20
        clear hm17
        refine cd_st (fun _ h => st_star_o h) ?_
        refine c_reg ?_
        refine r_u (o_mv rfl) ?_
        refine r_u (o_nc rfl) ?_
        refine r_u (o_fa fa196_2 rfl) ?_
        refine r_u (o_ld 8 sc191 rfl rfl rfl) ?_
        refine r_u (o_mv rfl) ?_
        obtain ⟨r26, hr26, hm27⟩ := bs hm21
        clear hm21
        refine r_c (s_w (o_call ca160 rfl (ring_Rings_In.ok b19 x18 g5 a1 r26 hr26))) ?_
        refine r_u (o_mv rfl) ?_
        refine r_u (o_ext rfl rfl) ?_
        refine r_u (o_ext rfl rfl) ?_
        refine r_u (o_as rfl) ?_
        refine r_u (o_as rfl) ?_
        refine r_nil ?_
        refine x_seq ?_
        refine c_seq ?_
        refine c_seq ?_
        refine c_reg ?_
        refine r_u (o_mv rfl) ?_
        refine r_u (o_bin rfl rfl (bI_eq r26.1 0)) ?_
        refine r_nil ?_
        refine x_seq ?_
        refine c_if (b := (r26.1 == 0)) rfl (fun h28 => ?_) fun h28 => ?_
        · have hm29 := ift hm27 h28
          clear hm27
          refine c_seq ?_
          refine c_reg ?_
          refine r_u (o_mv rfl) ?_
          refine r_u (o_nc rfl) ?_
          refine r_u (o_fa fa196_2 rfl) ?_
          refine r_u (o_ld 8 sc191 rfl rfl rfl) ?_
          refine r_u (o_mv rfl) ?_
          obtain ⟨r30, hr30, hm36⟩ := bs hm29
          clear hm29
          refine r_sw (s_w (o_call ca163 rfl (ring_Rings_Front.ok b19 x18 g5 0 a1 r30 hr30))) ?_
          rintro _ R _ _ ⟨g31, rfl, rfl, rfl⟩
          refine r_u (o_as rfl) ?_
          refine r_nil ?_
          refine x_seq ?_
          refine c_ret ?_
          refine ex_st (fun _ h => mv7 (mv7 (mv7 h))) ?_
          refine ex_st (fun _ h => st_some (f := sketch_Sketch.op g2) (a := r16) (st_star_f (A := sketch_Sketch.fl b11 r16 g2) h)) ?_
          refine ex_st (fun _ h => mv5 (mv5 (mv5 (mv5 (mv5 h))))) ?_
          refine ex_st (fun _ h => st_some (f := ring_Rings.op g31) (a := r30.2) (st_star_f (A := ring_Rings.fl b19 r30.2 g31) h)) ?_
          obtain rfl := Option.some.inj hm36
          refine ex_st (fun _ h => st_pk 3 [2, 1, 0] (by decide) h) ?_
          exact x_r1 rfl (rv_t rfl) (Le.refl _) ⟨_, rfl, (⟨(pt b11 0, g2), (pt b19 0, g31)⟩ : tiny_Tiny.G), rfl, rfl, rfl⟩
        · have hm29 := iff_ hm27 h28
          clear hm27
          refine c_skip ?_
          refine x_seq ?_
          refine c_seq ?_
          refine c_reg ?_
          refine r_u (o_mv rfl) ?_
          refine r_u (o_nc rfl) ?_
          refine r_u (o_fa fa196_2 rfl) ?_
          refine r_u (o_ld 8 sc191 rfl rfl rfl) ?_
          refine r_u (o_mv rfl) ?_
          obtain ⟨r37, hr37, hm43⟩ := bs hm29
          clear hm29
          refine r_sw (s_w (o_call ca163 rfl (ring_Rings_Front.ok b19 x18 g5 2 a1 r37 hr37))) ?_
          rintro _ R _ _ ⟨g38, rfl, rfl, rfl⟩
          refine r_nil ?_
          refine x_seq ?_
          refine c_seq ?_
          refine c_seq ?_
          obtain ⟨r44, hr44, hm45⟩ := bs hm43
          clear hm43
          refine c_any mixed (effs := []) (V := []) ?_
          refine stage_ext [(0, pt b0_ 0), (1, pt b0_ 0), (2, pt b0_ 2), (3, pt b19 0), (4, vI r44), (5, pt b0_ 0), (6, pt b0_ 0), (7, pt b0_ 0), (8, vI a0.most), (9, .agg (api_Parts.c (tiny_Parts a0.most)).toArray), (10, vI ((tiny_Parts a0.most).Protected)), (11, vB (decide (((tiny_Parts a0.most).Protected) < r44)))] rfl ?_
          refine stage rfl rfl rfl rfl [0, 1, 3, 7, 15, 0, 32, 96, 224, 511, 1023, 2047] [0, 1, 2, 3, 4, 5, 6, 7, 8, 9, 10, 11] [] rfl rfl rfl (qc rfl rfl (s_u (o_mv rfl)) (qc rfl rfl (s_u (o_nc rfl)) (qc rfl rfl (s_u (o_fa fa196_2 rfl)) (qc rfl rfl (s_u (o_ld 8 sc191 rfl rfl rfl)) (qc rfl rfl (s_u (o_callqP ca164 rfl (ring_Rings_Len.ok b19 r37.2 g38 2 r44 hr44) (fun _ h => st_pk 9 [0, 1, 2, 3, 4, 5, 6, 7, 8] (by decide) h) (fun _ h => st_pk 9 [0, 1, 2, 3, 4, 5, 6, 7, 8] (by decide) h))) (qc rfl rfl (s_u (o_mv rfl)) (qc rfl rfl (s_u (o_nc rfl)) (qc rfl rfl (s_u (o_fa fa196_0 rfl)) (qc rfl rfl (s_u (o_ld 8 sc3 rfl rfl rfl)) (qc rfl rfl (s_u (o_callq ca165 rfl (tiny_Parts.ok a0.most _ rfl))) (qc rfl rfl (s_u (o_fd (v := vI ((tiny_Parts a0.most).Protected)) rfl (fun _ => by kernel_rfl))) (qc rfl rfl (s_u (o_bin rfl rfl (bI_gt r44 ((tiny_Parts a0.most).Protected)))) qn)))))))))))) en ?_
          intro _
          refine ex_sub (E' := [(0, pt b0_ 0), (53, vB (decide (((tiny_Parts a0.most).Protected) < r44)))]) ⟨rfl, rfl, trivial⟩ ?_
          refine x_seq ?_
          refine c_if (b := decide (((tiny_Parts a0.most).Protected) < r44)) rfl (fun h46 => ?_) fun h46 => ?_
          · have hm47 := ift hm45 h46
            clear hm45
            refine c_seq ?_
            refine c_reg ?_
            refine r_u (o_mv rfl) ?_
            refine r_u (o_nc rfl) ?_
            refine r_u (o_fa fa196_2 rfl) ?_
            refine r_u (o_ld 8 sc191 rfl rfl rfl) ?_
            obtain ⟨r48, hr48, hm49⟩ := bs hm47
            clear hm47
            refine r_c (s_w (o_call ca166 rfl (ring_Rings_Back.ok b19 r37.2 g38 2 r48 hr48))) ?_
            refine r_u (o_mv rfl) ?_
            refine r_u (o_ext rfl rfl) ?_
            refine r_u (o_ext rfl rfl) ?_
            refine r_u (o_as rfl) ?_
            refine r_u (o_as rfl) ?_
            refine r_nil ?_
            refine x_seq ?_
            refine c_reg ?_
            refine r_u (o_mv rfl) ?_
            refine r_u (o_nc rfl) ?_
            refine r_u (o_fa fa196_2 rfl) ?_
            refine r_u (o_ld 8 sc191 rfl rfl rfl) ?_
            refine r_u (o_mv rfl) ?_
            obtain ⟨r50, hr50, hm56⟩ := bs hm49
            clear hm49
            refine r_sw (s_w (o_call ca163 rfl (ring_Rings_Front.ok b19 r37.2 g38 1 r48.1 r50 hr50))) ?_
            rintro _ R _ _ ⟨g51, rfl, rfl, rfl⟩
            refine r_nil ?_
            refine x_seq ?_
            refine c_seq ?_
            refine c_reg ?_
            refine r_u (o_as rfl) ?_
            refine r_nil ?_
            refine x_seq ?_
            refine c_ret ?_
            refine ex_st (fun _ h => mv7 (mv7 (mv7 h))) ?_
            refine ex_st (fun _ h => st_some (f := sketch_Sketch.op g2) (a := r16) (st_star_f (A := sketch_Sketch.fl b11 r16 g2) h)) ?_
            refine ex_st (fun _ h => mv5 (mv5 (mv5 (mv5 (mv5 h))))) ?_
            refine ex_st (fun _ h => st_some (f := ring_Rings.op g51) (a := r50.2) (st_star_f (A := ring_Rings.fl b19 r50.2 g51) h)) ?_
            obtain rfl := Option.some.inj hm56
            refine ex_st (fun _ h => st_pk 3 [2, 1, 0] (by decide) h) ?_
            exact x_r1 rfl (rv_t rfl) (Le.refl _) ⟨_, rfl, (⟨(pt b11 0, g2), (pt b19 0, g51)⟩ : tiny_Tiny.G), rfl, rfl, rfl⟩
          · have hm47 := iff_ hm45 h46
            clear hm45
            refine c_skip ?_
            refine x_seq ?_
            refine c_seq ?_
            refine c_reg ?_
            refine r_u (o_as rfl) ?_
            refine r_nil ?_
            refine x_seq ?_
            refine c_ret ?_
            refine ex_st (fun _ h => mv7 (mv7 (mv7 h))) ?_
            refine ex_st (fun _ h => st_some (f := sketch_Sketch.op g2) (a := r16) (st_star_f (A := sketch_Sketch.fl b11 r16 g2) h)) ?_
            refine ex_st (fun _ h => mv5 (mv5 (mv5 (mv5 (mv5 h))))) ?_
            refine ex_st (fun _ h => st_some (f := ring_Rings.op g38) (a := r37.2) (st_star_f (A := ring_Rings.fl b19 r37.2 g38) h)) ?_
            obtain rfl := Option.some.inj hm47
            refine ex_st (fun _ h => st_pk 3 [2, 1, 0] (by decide) h) ?_
            exact x_r1 rfl (rv_t rfl) (Le.refl _) ⟨_, rfl, (⟨(pt b11 0, g2), (pt b19 0, g38)⟩ : tiny_Tiny.G), rfl, rfl, rfl⟩

def policy_Policy_Touch (a0 : policy_Policy) (a1 : Str) : Option (Bool × policy_Policy) :=
  if ((policy_Policy_Kind a0) == 1) then om a0.a (none) fun x8 => (arc_Arc_Touch x8 a1).bind fun r15 => some (r15.1, (⟨a0.kind, (some r15.2), a0.t⟩ : policy_Policy)) else if ((policy_Policy_Kind a0) == 2) then om a0.t (none) fun x23 => (tiny_Tiny_Touch x23 a1).bind fun r33 => some (r33.1, (⟨a0.kind, a0.a, (some r33.2)⟩ : policy_Policy)) else some (false, a0)
theorem policy_Policy_Touch.ok {G R F} (b0_ : Nat) (a0 : policy_Policy) (g0_ : policy_Policy.G) (a1 : Str) (r : Bool × policy_Policy) (hm : policy_Policy_Touch a0 a1 = some r) : CO Tryz.prog 71 [pt b0_ 0, vS a1] G R (Bk b0_ 144 [vI a0.kind, g0_.a.1, g0_.t.1] :: rO (arc_Arc.op g0_.a.2) g0_.a.1 a0.a :: rO (tiny_Tiny.op g0_.t.2) g0_.t.1 a0.t :: F)
    (Ret fun u R' L' => ∃ (q0 : policy_Policy.G), u = vB r.1 ∧ R' = R ∧ L' = Bk b0_ 144 [vI r.2.kind, q0.a.1, q0.t.1] :: rO (arc_Arc.op q0.a.2) q0.a.1 r.2.a :: rO (tiny_Tiny.op q0.t.2) q0.t.1 r.2.t :: F) := by
  obtain ⟨⟨pv1, g2⟩, ⟨pv4, g5⟩⟩ := g0_
  unfold policy_Policy_Touch at hm
  refine co_ofN (N := 23) Tryz.func71 rfl rfl ?_
  refine c_seq ?_
  refine c_reg ?_
  refine r_u (o_as rfl) ?_
  refine r_nil ?_
  refine x_seq ?_
  refine c_seq ?_
  refine c_seq ?_
  refine c_reg ?_
  refine r_u (o_mv rfl) ?_
  refine r_c (s_w (o_call ca67 rfl (policy_Policy_Kind.ok b0_ a0 (⟨(pv1, g2), (pv4, g5)⟩ : policy_Policy.G) _ rfl))) ?_
  refine r_nil ?_
  refine x_seq ?_
  refine c_blk ?_
  refine c_seq ?_
  refine c_reg ?_
  refine r_u (o_bin rfl rfl (bI_eq (policy_Policy_Kind a0) 1)) ?_
  refine r_u (o_as rfl) ?_
  refine r_nil ?_
  refine x_seq ?_
  refine c_if (b := ((policy_Policy_Kind a0) == 1)) rfl (fun h6 => ?_) fun h6 => ?_
  · have hm7 := ift hm h6
    clear hm
    refine c_seq ?_
    refine cd_st (fun _ h => mv1 h) ?_
    refine cd_opt (fun ho10 => ?_) (fun x8 b9 ho10 => ?_)
    · rintro rfl
      have hm11 := om_n hm7 ho10
      clear hm7
      cases hm11
    · rintro rfl
      have hm11 := om_s hm7 ho10
      clear hm7
      obtain ⟨⟨pv13, g14⟩⟩ := g2
      refine cd_st (fun _ h => st_star_o h) ?_
      refine c_reg ?_
      refine r_u (o_mv rfl) ?_
      refine r_u (o_nc rfl) ?_
      refine r_u (o_fa fa144_1 rfl) ?_
      refine r_u (o_ld 2 sc141 rfl rfl rfl) ?_
      refine r_u (o_mv rfl) ?_
      obtain ⟨r15, hr15, hm20⟩ := bs hm11
      clear hm11
      refine r_sw (s_w (o_call ca120 rfl (arc_Arc_Touch.ok b9 x8 (⟨(pv13, g14)⟩ : arc_Arc.G) a1 r15 hr15))) ?_
      rintro _ R _ _ ⟨⟨⟨pv18, g19⟩⟩, rfl, rfl, rfl⟩
      refine r_u (o_as rfl) ?_
      refine r_nil ?_
      refine x_seq ?_
      refine c_ret ?_
      refine ex_st (fun _ h => st_some (f := arc_Arc.op (⟨(pv18, g19)⟩ : arc_Arc.G)) (a := r15.2) (st_star_f (A := arc_Arc.fl b9 r15.2 (⟨(pv18, g19)⟩ : arc_Arc.G)) h)) ?_
      obtain rfl := Option.some.inj hm20
      refine ex_st (fun _ h => st_pk 3 [1, 0, 2] (by decide) h) ?_
      exact x_r1 rfl (rv_t rfl) (Le.refl _) ⟨_, rfl, (⟨(pt b9 0, (⟨(pv18, g19)⟩ : arc_Arc.G)), (pv4, g5)⟩ : policy_Policy.G), rfl, rfl, rfl⟩
  · have hm7 := iff_ hm h6
    clear hm
    refine c_seq ?_
    refine c_reg ?_
    refine r_u (o_bin rfl rfl (bI_eq (policy_Policy_Kind a0) 2)) ?_
    refine r_u (o_as rfl) ?_
    refine r_nil ?_
    refine x_seq ?_
    refine c_if (b := ((policy_Policy_Kind a0) == 2)) rfl (fun h21 => ?_) fun h21 => ?_
    · have hm22 := ift hm7 h21
      clear hm7
      refine c_seq ?_
      refine cd_st (fun _ h => mv2 h) ?_
      refine cd_opt (fun ho25 => ?_) (fun x23 b24 ho25 => ?_)
      · rintro rfl
        have hm26 := om_n hm22 ho25
        clear hm22
        cases hm26
      · rintro rfl
        have hm26 := om_s hm22 ho25
        clear hm22
        obtain ⟨⟨pv28, g29⟩, ⟨pv31, g32⟩⟩ := g5
        refine cd_st (fun _ h => st_star_o h) ?_
        refine c_reg ?_
        refine r_u (o_mv rfl) ?_
        refine r_u (o_nc rfl) ?_
        refine r_u (o_fa fa144_2 rfl) ?_
        refine r_u (o_ld 3 sc142 rfl rfl rfl) ?_
        refine r_u (o_mv rfl) ?_
        obtain ⟨r33, hr33, hm41⟩ := bs hm26
        clear hm26
        refine r_sw (s_w (o_call ca121 rfl (tiny_Tiny_Touch.ok b24 x23 (⟨(pv28, g29), (pv31, g32)⟩ : tiny_Tiny.G) a1 r33 hr33))) ?_
        rintro _ R _ _ ⟨⟨⟨pv36, g37⟩, ⟨pv39, g40⟩⟩, rfl, rfl, rfl⟩
        refine r_u (o_as rfl) ?_
        refine r_nil ?_
        refine x_seq ?_
        refine c_ret ?_
        refine ex_st (fun _ h => st_some (f := tiny_Tiny.op (⟨(pv36, g37), (pv39, g40)⟩ : tiny_Tiny.G)) (a := r33.2) (st_star_f (A := tiny_Tiny.fl b24 r33.2 (⟨(pv36, g37), (pv39, g40)⟩ : tiny_Tiny.G)) h)) ?_
        obtain rfl := Option.some.inj hm41
        refine ex_st (fun _ h => st_pk 3 [1, 2, 0] (by decide) h) ?_
        exact x_r1 rfl (rv_t rfl) (Le.refl _) ⟨_, rfl, (⟨(pv1, g2), (pt b24 0, (⟨(pv36, g37), (pv39, g40)⟩ : tiny_Tiny.G))⟩ : policy_Policy.G), rfl, rfl, rfl⟩
    · have hm22 := iff_ hm7 h21
      clear hm7
      refine c_skip ?_
      refine x_blk ?_
      refine x_seq ?_
      refine c_seq ?_
      refine c_reg ?_
      refine r_u (o_as rfl) ?_
      refine r_nil ?_
      refine x_seq ?_
      refine c_ret ?_
      obtain rfl := Option.some.inj hm22
      exact x_r1 rfl (rv_t rfl) (Le.refl _) ⟨_, rfl, (⟨(pv1, g2), (pv4, g5)⟩ : policy_Policy.G), rfl, rfl, rfl⟩

def table_Table_Put (a0 : table_Table) (a1 : api_Entry) : table_Table :=
  lt (table_Table_Drop a0 a1.Key) fun r2 => (⟨mput r2.2.m a1.Key a1, i64 (r2.2.bytes + (table_size a1))⟩ : table_Table)
theorem table_Table_Put.ok {G R F} (b0_ : Nat) (a0 : table_Table) (g0_ : table_Table.G) (a1 : api_Entry) (r : table_Table) (hm : table_Table_Put a0 a1 = r) : CO Tryz.prog 122 [pt b0_ 0, .agg (api_Entry.c a1).toArray] G R (Bk b0_ 138 [g0_.m, vI a0.bytes] :: OwM vS api_Entry.v g0_.m a0.m :: F)
    (Ret fun u R' L' => u = .tuple #[] ∧ R' = R ∧ L' = Bk b0_ 138 [g0_.m, vI r.bytes] :: OwM vS api_Entry.v g0_.m r.m :: F) := by
  unfold table_Table_Put at hm
  refine co_ofN (N := 26) Tryz.func122 rfl rfl ?_
  refine c_seq ?_
  refine c_reg ?_
  refine r_new (o_bx (api_Entry.c a1) rfl rfl) fun b1 => ?_
  refine r_nil ?_
  refine x_seq ?_
  refine c_seq ?_
  refine c_reg ?_
  refine r_u (o_mv rfl) ?_
  refine r_u (o_bin rfl rfl (bP_nep Tryz.underlying92)) ?_
  refine r_nil ?_
  refine x_seq ?_
  refine c_tt rfl ?_
  refine c_seq ?_
  refine c_reg ?_
  refine r_u (o_mv rfl) ?_
  refine r_u (o_fa fa50_0 rfl) ?_
  refine r_u (o_ld 0 sc9 rfl rfl rfl) ?_
  obtain ⟨r2, hr2, hm3⟩ := ltx hm
  clear hm
  refine rl_st (fun _ h => mv2 (mv2 h)) ?_
  refine r_c (s_w (o_call ca36 rfl (table_Table_Drop.ok b0_ a0 g0_ a1.Key r2 hr2))) ?_
  refine r_nil ?_
  refine x_seq ?_
  refine c_seq ?_
  refine c_any mixed (effs := [7]) (V := []) ?_
  refine stage_st (fun _ h => mv1 h) ?_
  refine stage_ext [(0, pt b0_ 0), (1, pt b0_ 0), (2, pt b0_ 0), (3, g0_.m), (4, pt b1 0), (5, vS a1.Key), (6, .agg (api_Entry.c a1).toArray)] rfl ?_
  refine stage rfl rfl rfl rfl [0, 1, 3, 7, 0, 16, 0, 127] [0, 1, 2, 3, 4, 5, 6] [7] rfl rfl rfl (qc rfl rfl (s_u (o_mv rfl)) (qc rfl rfl (s_u (o_nc rfl)) (qc rfl rfl (s_u (o_fa fa138_0 rfl)) (qc rfl rfl (s_u (o_ld 1 sc136 rfl rfl rfl)) (qc rfl rfl (s_u (o_fa fa50_0 rfl)) (qc rfl rfl (s_u (o_ld 2 sc9 rfl rfl rfl)) (qc rfl rfl (s_u (o_ldn 2 (api_Entry.c a1) ag50 rfl rfl rfl rfl)) qn))))))) ?_ (fun h => absurd h (by decide))
  refine ec (eo_u rfl (s_u (o_mu (kv := vS) (vv := api_Entry.v) (key := a1.Key) (val := a1) Tryz.underlying136 (kok_S Tryz.underlying9) rfl rfl rfl rfl)) (Le.refl _) ?_) en
  refine stage rfl rfl rfl rfl [0, 1, 3, 7, 0, 16, 0, 127] [] [] rfl rfl rfl qn en ?_
  intro _
  refine ex_sub (E' := [(0, pt b0_ 0), (3, pt b1 0)]) ⟨rfl, rfl, trivial⟩ ?_
  refine x_seq ?_
  refine c_any mixed (effs := [9]) (V := []) ?_
  refine stage_st (fun _ h => mv1 h) ?_
  refine stage_ext [(0, pt b0_ 0), (1, pt b0_ 0), (2, pt b0_ 1), (3, vI r2.2.bytes), (4, .agg (api_Entry.c a1).toArray), (5, vI (table_size a1)), (6, vI (i64 (r2.2.bytes + (table_size a1)))), (7, pt b0_ 0), (8, pt b0_ 1)] rfl ?_
  refine stage rfl rfl rfl rfl [0, 1, 3, 7, 0, 16, 63, 127, 255, 511] [0, 1, 2, 3, 4, 5, 6, 7, 8] [9] rfl rfl rfl (qc rfl rfl (s_u (o_mv rfl)) (qc rfl rfl (s_u (o_nc rfl)) (qc rfl rfl (s_u (o_fa fa138_1 rfl)) (qc rfl rfl (s_u (o_ld 0 sc3 rfl rfl rfl)) (qc rfl rfl (s_u (o_ldn 2 (api_Entry.c a1) ag50 rfl rfl rfl rfl)) (qc rfl rfl (s_u (o_callq ca66 rfl (table_size.ok a1 _ rfl))) (qc rfl rfl (s_u (o_bin rfl rfl (bI_add r2.2.bytes (table_size a1)))) (qc rfl rfl (s_u (o_nc rfl)) (qc rfl rfl (s_u (o_fa fa138_1 rfl)) qn))))))))) ?_ (fun h => absurd h (by decide))
  refine ec (eo_u rfl (s_u (o_st sc3 rfl rfl rfl rfl rfl rfl)) (Le.refl _) ?_) en
  refine stage rfl rfl rfl rfl [0, 1, 3, 7, 0, 16, 63, 127, 255, 511] [] [] rfl rfl rfl qn en ?_
  intro _
  refine ex_sub (E' := []) trivial ?_
  refine x_end ?_
  subst hm3
  refine ex_st (fun _ h => st_pk 3 [0, 1] (by decide) h) ?_
  exact x_r0 rfl (Le.refl _) ⟨_, rfl, rfl, rfl, rfl⟩

def arc_Arc_Len (a0 : arc_Arc) : Option Int :=
  om a0.r (none) fun x3 => (ring_Rings_Len x3 0).bind fun r11 => (ring_Rings_Len x3 1).bind fun r13 => some (i64 (r11 + r13))
theorem arc_Arc_Len.ok {G R F} (b0_ : Nat) (a0 : arc_Arc) (g0_ : arc_Arc.G) (r : Int) (hm : arc_Arc_Len a0 = some r) : CO Tryz.prog 157 [pt b0_ 0] G R (Bk b0_ 193 [vI a0.most, vI a0.target, g0_.r.1] :: rO (ring_Rings.op g0_.r.2) g0_.r.1 a0.r :: F)
    (Ret fun u R' L' => u = vI r ∧ R' = R ∧ L' = Bk b0_ 193 [vI a0.most, vI a0.target, g0_.r.1] :: rO (ring_Rings.op g0_.r.2) g0_.r.1 a0.r :: F) := by
  obtain ⟨⟨pv1, g2⟩⟩ := g0_
  unfold arc_Arc_Len at hm
  refine co_ofN (N := 16) Tryz.func157 rfl rfl ?_
  refine c_seq ?_
  refine c_reg ?_
  refine r_u (o_as rfl) ?_
  refine r_nil ?_
  refine x_seq ?_
  refine c_seq ?_
  refine c_seq ?_
  refine c_reg ?_
  refine r_u (o_mv rfl) ?_
  refine r_u (o_bin rfl rfl (bP_eqp Tryz.underlying141)) ?_
  refine r_nil ?_
  refine x_seq ?_
  refine c_ff rfl ?_
  refine c_skip ?_
  refine x_seq ?_
  refine c_seq ?_
  refine cd_st (fun _ h => mv1 h) ?_
  refine cd_opt (fun ho5 => ?_) (fun x3 b4 ho5 => ?_)
  · rintro rfl
    have hm6 := om_n hm ho5
    clear hm
    cases hm6
  · rintro rfl
    have hm6 := om_s hm ho5
    clear hm
    refine cd_st (fun _ h => st_star_o h) ?_
    obtain ⟨r11, hr11, hm12⟩ := bs hm6
    clear hm6
    obtain ⟨r13, hr13, hm14⟩ := bs hm12
    clear hm12
    refine c_any mixed (effs := []) (V := []) ?_
    refine stage_ext [(0, pt b0_ 0), (1, pt b0_ 0), (2, pt b0_ 2), (3, pt b4 0), (4, vI r11), (5, pt b0_ 0), (6, pt b0_ 0), (7, pt b0_ 2), (8, pt b4 0), (9, vI r13), (10, vI (i64 (r11 + r13))), (11, vI (i64 (r11 + r13)))] rfl ?_
    refine stage rfl rfl rfl rfl [0, 1, 3, 7, 15, 0, 32, 96, 224, 511, 1023, 2047] [0, 1, 2, 3, 4, 5, 6, 7, 8, 9, 10, 11] [] rfl rfl rfl (qc rfl rfl (s_u (o_mv rfl)) (qc rfl rfl (s_u (o_nc rfl)) (qc rfl rfl (s_u (o_fa fa193_2 rfl)) (qc rfl rfl (s_u (o_ld 5 sc191 rfl rfl rfl)) (qc rfl rfl (s_u (o_callqP ca164 rfl (ring_Rings_Len.ok b4 x3 g2 0 r11 hr11) (fun _ h => st_pk 6 [0, 1, 2, 3, 4, 5] (by decide) h) (fun _ h => st_pk 6 [0, 1, 2, 3, 4, 5] (by decide) h))) (qc rfl rfl (s_u (o_mv rfl)) (qc rfl rfl (s_u (o_nc rfl)) (qc rfl rfl (s_u (o_fa fa193_2 rfl)) (qc rfl rfl (s_u (o_ld 5 sc191 rfl rfl rfl)) (qc rfl rfl (s_u (o_callqP ca164 rfl (ring_Rings_Len.ok b4 x3 g2 1 r13 hr13) (fun _ h => st_pk 6 [0, 1, 2, 3, 4, 5] (by decide) h) (fun _ h => st_pk 6 [0, 1, 2, 3, 4, 5] (by decide) h))) (qc rfl rfl (s_u (o_bin rfl rfl (bI_add r11 r13))) (qc rfl rfl (s_u (o_as rfl)) qn)))))))))))) en ?_
    intro _
    refine ex_sub (E' := [(2, vI (i64 (r11 + r13)))]) ⟨rfl, trivial⟩ ?_
    refine x_seq ?_
    refine c_ret ?_
    refine ex_st (fun _ h => st_some (f := ring_Rings.op g2) (a := x3) (st_star_f (A := ring_Rings.fl b4 x3 g2) h)) ?_
    refine ex_st (fun _ h => st_back ho5 h) ?_
    obtain rfl := Option.some.inj hm14
    refine ex_st (fun _ h => st_pk 2 [1, 0] (by decide) h) ?_
    exact x_r1 rfl (rv_t rfl) (Le.refl _) ⟨_, rfl, rfl, rfl, rfl⟩

def arc_Arc_replace (a0 : arc_Arc) (a1 : Bool) : Option (List Str × arc_Arc) :=
  om a0.r (none) fun x3 => (ring_Rings_Len x3 0).bind fun r11 => Option.bind (if decide (0 < r11) then Option.bind (if (decide (a0.target < r11) || (a1 && (r11 == a0.target))) then some true else (ring_Rings_Len x3 1).bind fun r43 => some (r43 == 0)) fun p37 => some p37 else some false) fun p13 => Option.bind (if p13 then some (0, 2) else some (1, 3)) fun p17 => (ring_Rings_Back x3 p17.1).bind fun r21 => if !r21.2 then some ([], a0) else (ring_Rings_Front x3 p17.2 r21.1).bind fun r25 => some ([r21.1], (⟨a0.most, a0.target, (some r25.2)⟩ : arc_Arc))
theorem arc_Arc_replace.ok {G R F} (b0_ : Nat) (a0 : arc_Arc) (g0_ : arc_Arc.G) (a1 : Bool) (r : List Str × arc_Arc) (hm : arc_Arc_replace a0 a1 = some r) : CO Tryz.prog 214 [pt b0_ 0, vB a1] G R (Bk b0_ 193 [vI a0.most, vI a0.target, g0_.r.1] :: rO (ring_Rings.op g0_.r.2) g0_.r.1 a0.r :: F)
    (Ret fun u R' L' => ∃ (p0 : Value) (q0 : arc_Arc.G), u = p0 ∧ R' = R ∧ L' = OwS true 9 1 eS p0 r.1 :: Bk b0_ 193 [vI r.2.most, vI r.2.target, q0.r.1] :: rO (ring_Rings.op q0.r.2) q0.r.1 r.2.r :: F) := by
  obtain ⟨⟨pv1, g2⟩⟩ := g0_
  unfold arc_Arc_replace at hm
  refine co_ofN (N := 64) Tryz.func214 rfl rfl ?_
  refine c_seq ?_
  refine c_reg ?_
  refine r_u (o_as rfl) ?_
  refine r_nil ?_
  refine x_seq ?_
  refine c_seq ?_
  refine c_reg ?_
  refine r_u (o_as rfl) ?_
  refine r_u (o_as rfl) ?_
  refine r_nil ?_
  refine x_seq ?_
  refine c_seq ?_
  refine c_seq ?_
  refine cd_st (fun _ h => mv1 h) ?_
  refine cd_opt (fun ho5 => ?_) (fun x3 b4 ho5 => ?_)
  · rintro rfl
    have hm6 := om_n hm ho5
    clear hm
    cases hm6
  · rintro rfl
    have hm6 := om_s hm ho5
    clear hm
    refine cd_st (fun _ h => st_star_o h) ?_
    refine c_reg ?_
    refine r_u (o_mv rfl) ?_
    refine r_u (o_nc rfl) ?_
    refine r_u (o_fa fa193_2 rfl) ?_
    refine r_u (o_ld 5 sc191 rfl rfl rfl) ?_
    obtain ⟨r11, hr11, hm12⟩ := bs hm6
    clear hm6
    refine r_c (s_w (o_call ca164 rfl (ring_Rings_Len.ok b4 x3 g2 0 r11 hr11))) ?_
    refine r_u (o_as rfl) ?_
    refine r_nil ?_
    refine x_seq ?_
    refine c_seq ?_
    obtain ⟨p13, hp14, hm15⟩ := bs hm12
    refine cd_join (E' := [(0, pt b0_ 0), (5, vI 1), (6, vI 3), (43, vB p13)]) (L' := Bk b4 237 [vI x3.lists, g2.slots, g2.free, g2.at_, g2.many] :: Bk b0_ 193 [vI a0.most, vI a0.target, pt b4 0] :: OwS true 240 4 ring_slot.c g2.slots x3.slots :: OwS true 3 1 eI g2.free x3.free :: OwM vS vI g2.at_ x3.at_ :: OwS true 3 1 eI g2.many x3.many :: F) ?_ fun K16 => ?_
    · refine x_seq ?_
      obtain ⟨p17, hp18, hm19⟩ := bs hm15
      refine cd_join (E' := [(0, pt b0_ 0), (5, vI p17.1), (6, vI p17.2)]) (L' := Bk b4 237 [vI x3.lists, g2.slots, g2.free, g2.at_, g2.many] :: Bk b0_ 193 [vI a0.most, vI a0.target, pt b4 0] :: OwS true 240 4 ring_slot.c g2.slots x3.slots :: OwS true 3 1 eI g2.free x3.free :: OwM vS vI g2.at_ x3.at_ :: OwS true 3 1 eI g2.many x3.many :: F) ?_ fun K20 => ?_
      · refine x_seq ?_
        refine c_seq ?_
        refine c_reg ?_
        refine r_u (o_mv rfl) ?_
        refine r_u (o_nc rfl) ?_
        refine r_u (o_fa fa193_2 rfl) ?_
        refine r_u (o_ld 1 sc191 rfl rfl rfl) ?_
        refine r_u (o_mv rfl) ?_
        obtain ⟨r21, hr21, hm22⟩ := bs hm19
        clear hm19
        refine rl_st (fun _ h => mv4 (mv5 (mv5 (mv5 (mv5 h))))) ?_
        refine r_c (s_w (o_call ca166 rfl (ring_Rings_Back.ok b4 x3 g2 p17.1 r21 hr21))) ?_
        refine r_u (o_mv rfl) ?_
        refine r_u (o_ext rfl rfl) ?_
        refine r_u (o_ext rfl rfl) ?_
        refine r_u (o_as rfl) ?_
        refine r_u (o_as rfl) ?_
        refine r_nil ?_
        refine x_seq ?_
        refine c_seq ?_
        refine c_seq ?_
        refine c_reg ?_
        refine r_u (o_mv rfl) ?_
        refine r_u (o_not rfl) ?_
        refine r_nil ?_
        refine x_seq ?_
        refine c_if (b := !r21.2) rfl (fun h23 => ?_) fun h23 => ?_
        · have hm24 := ift hm22 h23
          clear hm22
          refine c_seq ?_
          refine c_reg ?_
          refine r_u (o_as rfl) ?_
          refine r_nil ?_
          refine x_seq ?_
          refine c_ret ?_
          refine ex_st (fun _ h => st_nil (ap := true) (T := 9) (sz := 1) (en := eS) h) ?_
          refine ex_st (fun _ h => mv5 (mv5 (mv5 (mv5 (mv5 h))))) ?_
          refine ex_st (fun _ h => st_some (f := ring_Rings.op g2) (a := x3) (st_star_f (A := ring_Rings.fl b4 x3 g2) h)) ?_
          refine ex_st (fun _ h => st_back ho5 h) ?_
          obtain rfl := Option.some.inj hm24
          refine ex_st (fun _ h => st_pk 3 [1, 2, 0] (by decide) h) ?_
          exact x_r1 rfl (rv_t rfl) (Le.refl _) ⟨_, rfl, (.slice none 0 0), (⟨(pt b4 0, g2)⟩ : arc_Arc.G), rfl, rfl, rfl⟩
        · have hm24 := iff_ hm22 h23
          clear hm22
          refine c_skip ?_
          refine x_seq ?_
          refine c_seq ?_
          refine c_reg ?_
          refine r_u (o_mv rfl) ?_
          refine r_u (o_nc rfl) ?_
          refine r_u (o_fa fa193_2 rfl) ?_
          refine r_u (o_ld 5 sc191 rfl rfl rfl) ?_
          refine r_u (o_mv rfl) ?_
          refine r_u (o_mv rfl) ?_
          obtain ⟨r25, hr25, hm31⟩ := bs hm24
          clear hm24
          refine r_sw (s_w (o_call ca163 rfl (ring_Rings_Front.ok b4 x3 g2 p17.2 r21.1 r25 hr25))) ?_
          rintro _ R _ _ ⟨g26, rfl, rfl, rfl⟩
          refine r_nil ?_
          refine x_seq ?_
          refine c_seq ?_
          refine c_reg ?_
          refine r_u (o_mv rfl) ?_
          refine r_sw (s_w (o_bsl (en := eS) (sz := 1) (e := 9) (cs := [vS r21.1]) (r := [r21.1]) rfl (fun _ => by kernel_rfl) rfl (by decide) rfl (fun _ => rfl))) ?_
          rintro v32 R _ _ ⟨rfl, rfl⟩
          refine r_u (o_as rfl) ?_
          refine r_nil ?_
          refine x_seq ?_
          refine c_ret ?_
          refine ex_st (fun _ h => mv5 (mv5 (mv5 (mv5 (mv5 h))))) ?_
          refine ex_st (fun _ h => st_some (f := ring_Rings.op g26) (a := r25.2) (st_star_f (A := ring_Rings.fl b4 r25.2 g26) h)) ?_
          obtain rfl := Option.some.inj hm31
          refine ex_st (fun _ h => st_pk 3 [1, 2, 0] (by decide) h) ?_
          exact x_r1 rfl (rv_t rfl) (Le.refl _) ⟨_, rfl, v32, (⟨(pt b4 0, g26)⟩ : arc_Arc.G), rfl, rfl, rfl⟩
      · refine c_if (b := p13) rfl (fun h33 => ?_) fun h33 => ?_
        · have hm34 := ift hp18 h33
          clear hp18
          refine c_reg ?_
          refine r_u (o_as rfl) ?_
          refine r_u (o_as rfl) ?_
          refine r_nil ?_
          obtain rfl := Option.some.inj hm34
          exact x_sub K20 ⟨rfl, rfl, rfl, trivial⟩ (fun _ h => st_pk 6 [0, 1, 2, 3, 4, 5] (by decide) h)
        · have hm34 := iff_ hp18 h33
          clear hp18
          refine c_skip ?_
          obtain rfl := Option.some.inj hm34
          exact x_sub K20 ⟨rfl, rfl, rfl, trivial⟩ (fun _ h => st_pk 6 [0, 1, 2, 3, 4, 5] (by decide) h)
    · refine cd_by (decide (0 < r11)) (fun h35 => ?_) fun h35 => ?_
      · have hm36 := ift hp14 h35
        clear hp14
        obtain ⟨p37, hp38, hm39⟩ := bs hm36
        refine cd_join (E' := [(0, pt b0_ 0), (5, vI 1), (6, vI 3), (43, vB p37)]) (L' := Bk b4 237 [vI x3.lists, g2.slots, g2.free, g2.at_, g2.many] :: Bk b0_ 193 [vI a0.most, vI a0.target, pt b4 0] :: OwS true 240 4 ring_slot.c g2.slots x3.slots :: OwS true 3 1 eI g2.free x3.free :: OwM vS vI g2.at_ x3.at_ :: OwS true 3 1 eI g2.many x3.many :: F) ?_ fun K40 => ?_
        · obtain rfl := Option.some.inj hm39
          exact x_sub K16 ⟨rfl, rfl, rfl, rfl, trivial⟩ (fun _ h => st_pk 6 [0, 1, 2, 3, 4, 5] (by decide) h)
        · refine cd_by (decide (a0.target < r11) || (a1 && (r11 == a0.target))) (fun h41 => ?_) fun h41 => ?_
          · have hm42 := ift hp38 h41
            clear hp38
            refine c_reg ?_
            refine r_u (o_mv rfl) ?_
            refine r_u (o_bin rfl rfl (bI_gt r11 0)) ?_
            refine r_u (o_mv rfl) ?_
            refine r_s (s_y rfl rfl h35 (o_mv rfl)) ?_
            refine r_s (s_y rfl rfl h35 (o_mv rfl)) ?_
            refine r_s (s_y rfl rfl h35 (o_nc rfl)) ?_
            refine r_s (s_y rfl rfl h35 (o_fa fa193_1 rfl)) ?_
            refine r_s (s_y rfl rfl h35 (o_ld 5 sc3 rfl rfl rfl)) ?_
            refine r_s (s_y rfl rfl h35 (o_bin rfl rfl (bI_gt r11 a0.target))) ?_
            refine r_s (s_y rfl rfl h35 (o_mv rfl)) ?_
            refine r_s (s_gf rfl rfl fun g => o_mv rfl) ?_
            refine r_s (s_gf rfl rfl fun g => o_mv (evg rfl g)) ?_
            refine r_s (s_ggt rfl rfl fun g => o_mv rfl) ?_
            refine r_s (s_ggt rfl rfl fun g => o_mv rfl) ?_
            refine r_s (s_ggt rfl rfl fun g => o_nc (evg rfl g)) ?_
            refine r_s (s_ggt rfl rfl fun g => o_fa fa193_1 (evg rfl g)) ?_
            refine r_s (s_ggt rfl rfl fun g => o_ld 5 sc3 (evg rfl g) rfl rfl) ?_
            refine r_s (s_ggt rfl rfl fun g => o_bin (evg rfl g) (evg rfl g) (bI_eq r11 a0.target)) ?_
            refine r_s (s_gf rfl rfl fun g => o_and (evg rfl g) (evg2 rfl g)) ?_
            refine r_s (s_y rfl rfl h35 (o_or rfl rfl)) ?_
            refine r_s (s_y rfl rfl h35 (o_mv rfl)) ?_
            refine r_s (s_n rfl rfl h41) ?_
            refine r_s (s_n rfl rfl h41) ?_
            refine r_s (s_n rfl rfl h41) ?_
            refine r_s (s_n rfl rfl h41) ?_
            refine r_s (s_n rfl rfl h41) ?_
            refine r_s (s_n rfl rfl h41) ?_
            refine r_s (s_y rfl rfl h35 (o_pt rfl h41 rfl)) ?_
            refine r_u (o_pt rfl h35 rfl) ?_
            refine r_nil ?_
            obtain rfl := Option.some.inj hm42
            exact x_sub K40 ⟨rfl, rfl, rfl, rfl, trivial⟩ (fun _ h => st_pk 6 [0, 5, 1, 2, 3, 4] (by decide) h)
          · have hm42 := iff_ hp38 h41
            clear hp38
            refine c_reg ?_
            refine r_u (o_mv rfl) ?_
            refine r_u (o_bin rfl rfl (bI_gt r11 0)) ?_
            refine r_u (o_mv rfl) ?_
            refine r_s (s_y rfl rfl h35 (o_mv rfl)) ?_
            refine r_s (s_y rfl rfl h35 (o_mv rfl)) ?_
            refine r_s (s_y rfl rfl h35 (o_nc rfl)) ?_
            refine r_s (s_y rfl rfl h35 (o_fa fa193_1 rfl)) ?_
            refine r_s (s_y rfl rfl h35 (o_ld 5 sc3 rfl rfl rfl)) ?_
            refine r_s (s_y rfl rfl h35 (o_bin rfl rfl (bI_gt r11 a0.target))) ?_
            refine r_s (s_y rfl rfl h35 (o_mv rfl)) ?_
            refine r_s (s_gf rfl rfl fun g => o_mv rfl) ?_
            refine r_s (s_gf rfl rfl fun g => o_mv (evg rfl g)) ?_
            refine r_s (s_ggt rfl rfl fun g => o_mv rfl) ?_
            refine r_s (s_ggt rfl rfl fun g => o_mv rfl) ?_
            refine r_s (s_ggt rfl rfl fun g => o_nc (evg rfl g)) ?_
            refine r_s (s_ggt rfl rfl fun g => o_fa fa193_1 (evg rfl g)) ?_
            refine r_s (s_ggt rfl rfl fun g => o_ld 5 sc3 (evg rfl g) rfl rfl) ?_
            refine r_s (s_ggt rfl rfl fun g => o_bin (evg rfl g) (evg rfl g) (bI_eq r11 a0.target)) ?_
            refine r_s (s_gf rfl rfl fun g => o_and (evg rfl g) (evg2 rfl g)) ?_
            refine r_s (s_y rfl rfl h35 (o_or rfl rfl)) ?_
            refine r_s (s_y rfl rfl h35 (o_mv rfl)) ?_
            refine r_s (s_y rfl rfl h41 (o_mv rfl)) ?_
            refine r_s (s_y rfl rfl h41 (o_nc rfl)) ?_
            refine r_s (s_y rfl rfl h41 (o_fa fa193_2 rfl)) ?_
            refine r_s (s_y rfl rfl h41 (o_ld 5 sc191 rfl rfl rfl)) ?_
            obtain ⟨r43, hr43, hm44⟩ := bs hm42
            clear hm42
            refine r_c (s_yw rfl rfl h41 (o_call ca164 rfl (ring_Rings_Len.ok b4 x3 g2 1 r43 hr43))) ?_
            refine r_s (s_y rfl rfl h41 (o_bin rfl rfl (bI_eq r43 0))) ?_
            refine r_s (s_y rfl rfl h35 (o_pf rfl h41 rfl)) ?_
            refine r_u (o_pt rfl h35 rfl) ?_
            refine r_nil ?_
            obtain rfl := Option.some.inj hm44
            exact x_sub K40 ⟨rfl, rfl, rfl, rfl, trivial⟩ (fun _ h => st_pk 6 [0, 5, 1, 2, 3, 4] (by decide) h)
      · have hm36 := iff_ hp14 h35
        clear hp14
        refine c_reg ?_
        refine r_u (o_mv rfl) ?_
        refine r_u (o_bin rfl rfl (bI_gt r11 0)) ?_
        refine r_u (o_mv rfl) ?_
        refine r_s (s_n rfl rfl h35) ?_
        refine r_s (s_n rfl rfl h35) ?_
        refine r_s (s_n rfl rfl h35) ?_
        refine r_s (s_n rfl rfl h35) ?_
        refine r_s (s_n rfl rfl h35) ?_
        refine r_s (s_n rfl rfl h35) ?_
        refine r_s (s_n rfl rfl h35) ?_
        refine r_s (s_nu rfl rfl) ?_
        refine r_s (s_nu rfl rfl) ?_
        refine r_s (s_nu rfl rfl) ?_
        refine r_s (s_nu rfl rfl) ?_
        refine r_s (s_nu rfl rfl) ?_
        refine r_s (s_nu rfl rfl) ?_
        refine r_s (s_nu rfl rfl) ?_
        refine r_s (s_nu rfl rfl) ?_
        refine r_s (s_nu rfl rfl) ?_
        refine r_s (s_n rfl rfl h35) ?_
        refine r_s (s_n rfl rfl h35) ?_
        refine r_s (s_nu rfl rfl) ?_
        refine r_s (s_nu rfl rfl) ?_
        refine r_s (s_nu rfl rfl) ?_
        refine r_s (s_nu rfl rfl) ?_
        refine r_s (s_nu rfl rfl) ?_
        refine r_s (s_nu rfl rfl) ?_
        refine r_s (s_n rfl rfl h35) ?_
        refine r_u (o_pf rfl h35 rfl) ?_
        refine r_nil ?_
        obtain rfl := Option.some.inj hm36
        exact x_sub K16 ⟨rfl, rfl, rfl, rfl, trivial⟩ (fun _ h => st_pk 6 [0, 5, 1, 2, 3, 4] (by decide) h)

def arc_Arc_again (a0 : arc_Arc) (a1 : Str) (a2 : Int) : Option (List Str × arc_Arc) :=
  om a0.r (none) fun x3 => (ring_Rings_Len x3 2).bind fun r11 => (ring_Rings_Len x3 3).bind fun r13 => Option.bind (if (a2 == 2) then if r11 ≠ 0 then some (if (i64 (a0.target + (if 1 < (i64 (r13.tdiv r11)) then i64 (r13.tdiv r11) else 1))) < a0.most then i64 (a0.target + (if 1 < (i64 (r13.tdiv r11)) then i64 (r13.tdiv r11) else 1)) else a0.most) else none else if r13 ≠ 0 then some (if 0 < (i64 (a0.target - (if 1 < (i64 (r11.tdiv r13)) then i64 (r11.tdiv r13) else 1))) then i64 (a0.target - (if 1 < (i64 (r11.tdiv r13)) then i64 (r11.tdiv r13) else 1)) else 0) else none) fun p15 => (arc_Arc_Len (⟨a0.most, p15, (some x3)⟩ : arc_Arc)).bind fun r19 => Option.bind (if decide (a0.most ≤ r19) then (arc_Arc_replace (⟨a0.most, p15, (some x3)⟩ : arc_Arc) (a2 == 3)).bind fun r47 => some (r47.1, r47.2) else some ([], (⟨a0.most, p15, (some x3)⟩ : arc_Arc))) fun p21 => om p21.2.r (none) fun x30 => (ring_Rings_Front x30 1 a1).bind fun r38 => some (p21.1, (⟨p21.2.most, p21.2.target, (some r38.2)⟩ : arc_Arc))
theorem arc_Arc_again.ok {G R F} (b0_ : Nat) (a0 : arc_Arc) (g0_ : arc_Arc.G) (a1 : Str) (a2 : Int) (r : List Str × arc_Arc) (hm : arc_Arc_again a0 a1 a2 = some r) : CO Tryz.prog 212 [pt b0_ 0, vS a1, vI a2] G R (Bk b0_ 193 [vI a0.most, vI a0.target, g0_.r.1] :: rO (ring_Rings.op g0_.r.2) g0_.r.1 a0.r :: F)
    (Ret fun u R' L' => ∃ (p0 : Value) (q0 : arc_Arc.G), u = p0 ∧ R' = R ∧ L' = OwS true 9 1 eS p0 r.1 :: Bk b0_ 193 [vI r.2.most, vI r.2.target, q0.r.1] :: rO (ring_Rings.op q0.r.2) q0.r.1 r.2.r :: F) := by
  obtain ⟨⟨pv1, g2⟩⟩ := g0_
  unfold arc_Arc_again at hm
  refine co_ofN (N := 70) Tryz.func212 rfl rfl ?_
  refine c_seq ?_
  refine c_reg ?_
  refine r_u (o_as rfl) ?_
  refine r_nil ?_
  refine x_seq ?_
  refine c_seq ?_
  refine cd_st (fun _ h => mv1 h) ?_
  refine cd_opt (fun ho5 => ?_) (fun x3 b4 ho5 => ?_)
  · rintro rfl
    have hm6 := om_n hm ho5
    clear hm
    cases hm6
  · rintro rfl
    have hm6 := om_s hm ho5
    clear hm
    refine cd_st (fun _ h => st_star_o h) ?_
    obtain ⟨r11, hr11, hm12⟩ := bs hm6
    clear hm6
    obtain ⟨r13, hr13, hm14⟩ := bs hm12
    clear hm12
    refine c_any mixed (effs := []) (V := []) ?_
    refine stage_ext [(0, pt b0_ 0), (1, pt b0_ 0), (2, pt b0_ 2), (3, pt b4 0), (4, vI r11), (5, pt b0_ 0), (6, pt b0_ 0), (7, pt b0_ 2), (8, pt b4 0), (9, vI r13), (10, vI r11), (11, vI r13)] rfl ?_
    refine stage rfl rfl rfl rfl [0, 1, 3, 7, 15, 0, 32, 96, 224, 511, 1023, 2047] [0, 1, 2, 3, 4, 5, 6, 7, 8, 9, 10, 11] [] rfl rfl rfl (qc rfl rfl (s_u (o_mv rfl)) (qc rfl rfl (s_u (o_nc rfl)) (qc rfl rfl (s_u (o_fa fa193_2 rfl)) (qc rfl rfl (s_u (o_ld 5 sc191 rfl rfl rfl)) (qc rfl rfl (s_u (o_callqP ca164 rfl (ring_Rings_Len.ok b4 x3 g2 2 r11 hr11) (fun _ h => st_pk 6 [0, 1, 2, 3, 4, 5] (by decide) h) (fun _ h => st_pk 6 [0, 1, 2, 3, 4, 5] (by decide) h))) (qc rfl rfl (s_u (o_mv rfl)) (qc rfl rfl (s_u (o_nc rfl)) (qc rfl rfl (s_u (o_fa fa193_2 rfl)) (qc rfl rfl (s_u (o_ld 5 sc191 rfl rfl rfl)) (qc rfl rfl (s_u (o_callqP ca164 rfl (ring_Rings_Len.ok b4 x3 g2 3 r13 hr13) (fun _ h => st_pk 6 [0, 1, 2, 3, 4, 5] (by decide) h) (fun _ h => st_pk 6 [0, 1, 2, 3, 4, 5] (by decide) h))) (qc rfl rfl (s_u (o_as rfl)) (qc rfl rfl (s_u (o_as rfl)) qn)))))))))))) en ?_
    intro _
    refine ex_sub (E' := [(0, pt b0_ 0), (1, vS a1), (2, vI a2), (7, vI r11), (8, vI r13)]) ⟨rfl, rfl, rfl, rfl, rfl, trivial⟩ ?_
    refine x_seq ?_
    refine c_seq ?_
    refine c_seq ?_
    refine c_reg ?_
    refine r_u (o_mv rfl) ?_
    refine r_u (o_bin rfl rfl (bI_eq a2 2)) ?_
    refine r_nil ?_
    refine x_seq ?_
    obtain ⟨p15, hp16, hm17⟩ := bs hm14
    refine cd_join (E' := [(0, pt b0_ 0), (1, vS a1), (2, vI a2)]) (L' := Bk b0_ 193 [vI a0.most, vI p15, pt b4 0] :: Bk b4 237 [vI x3.lists, g2.slots, g2.free, g2.at_, g2.many] :: OwS true 240 4 ring_slot.c g2.slots x3.slots :: OwS true 3 1 eI g2.free x3.free :: OwM vS vI g2.at_ x3.at_ :: OwS true 3 1 eI g2.many x3.many :: F) ?_ fun K18 => ?_
    · refine x_seq ?_
      refine c_seq ?_
      refine c_reg ?_
      refine r_u (o_as rfl) ?_
      refine r_nil ?_
      refine x_seq ?_
      refine c_seq ?_
      refine c_seq ?_
      refine cd_st (fun _ h => mv5 (mv5 (mv5 (mv5 (mv5 h))))) ?_
      refine cd_st (fun _ h => st_some (f := ring_Rings.op g2) (a := x3) (st_star_f (A := ring_Rings.fl b4 x3 g2) h)) ?_
      obtain ⟨r19, hr19, hm20⟩ := bs hm17
      clear hm17
      refine c_any mixed (effs := []) (V := []) ?_
      refine stage_ext [(0, pt b0_ 0), (1, vI r19), (2, pt b0_ 0), (3, pt b0_ 0), (4, pt b0_ 0), (5, vI a0.most), (6, vB (decide (a0.most ≤ r19)))] rfl ?_
      refine stage rfl rfl rfl rfl [0, 1, 0, 4, 12, 28, 63] [0, 1, 2, 3, 4, 5, 6] [] rfl rfl rfl (qc rfl rfl (s_u (o_mv rfl)) (qc rfl rfl (s_u (o_callqP ca157 rfl (arc_Arc_Len.ok b0_ (⟨a0.most, p15, (some x3)⟩ : arc_Arc) (⟨(pt b4 0, g2)⟩ : arc_Arc.G) r19 hr19) (fun _ h => st_pk 2 [1, 0] (by decide) h) (fun _ h => st_pk 2 [1, 0] (by decide) h))) (qc rfl rfl (s_u (o_mv rfl)) (qc rfl rfl (s_u (o_nc rfl)) (qc rfl rfl (s_u (o_fa fa193_0 rfl)) (qc rfl rfl (s_u (o_ld 1 sc3 rfl rfl rfl)) (qc rfl rfl (s_u (o_bin rfl rfl (bI_ge r19 a0.most))) qn))))))) en ?_
      intro _
      refine ex_sub (E' := [(0, pt b0_ 0), (1, vS a1), (2, vI a2), (9, .slice none 0 0), (58, vB (decide (a0.most ≤ r19)))]) ⟨rfl, rfl, rfl, rfl, rfl, trivial⟩ ?_
      refine x_seq ?_
      obtain ⟨p21, hp27, hm28⟩ := bs hm20
      refine cd_cut (fun x ks => ∀ (g22 : Value), ∀ (g23 : arc_Arc.G), EX x .normal ks [(0, pt b0_ 0), (1, vS a1), (9, g22)] R (Bk b0_ 193 [vI p21.2.most, vI p21.2.target, g23.r.1] :: OwS true 9 1 eS g22 p21.1 :: rO (ring_Rings.op g23.r.2) g23.r.1 p21.2.r :: F)) ?_ fun K29 => ?_
      · intro g22 g23
        obtain ⟨⟨pv25, g26⟩⟩ := g23
        refine x_seq ?_
        refine c_seq ?_
        refine cd_st (fun _ h => mv2 h) ?_
        refine cd_opt (fun ho32 => ?_) (fun x30 b31 ho32 => ?_)
        · rintro rfl
          have hm33 := om_n hm28 ho32
          clear hm28
          cases hm33
        · rintro rfl
          have hm33 := om_s hm28 ho32
          clear hm28
          refine cd_st (fun _ h => st_star_o h) ?_
          refine c_reg ?_
          refine r_u (o_mv rfl) ?_
          refine r_u (o_nc rfl) ?_
          refine r_u (o_fa fa193_2 rfl) ?_
          refine r_u (o_ld 5 sc191 rfl rfl rfl) ?_
          refine r_u (o_mv rfl) ?_
          obtain ⟨r38, hr38, hm44⟩ := bs hm33
          clear hm33
          refine r_sw (s_w (o_call ca163 rfl (ring_Rings_Front.ok b31 x30 g26 1 a1 r38 hr38))) ?_
          rintro _ R _ _ ⟨g39, rfl, rfl, rfl⟩
          refine r_nil ?_
          refine x_seq ?_
          refine c_seq ?_
          refine c_reg ?_
          refine r_u (o_mv rfl) ?_
          refine r_u (o_as rfl) ?_
          refine r_nil ?_
          refine x_seq ?_
          refine c_ret ?_
          refine ex_st (fun _ h => st_some (f := ring_Rings.op g39) (a := r38.2) (st_star_f (A := ring_Rings.fl b31 r38.2 g39) h)) ?_
          obtain rfl := Option.some.inj hm44
          refine ex_st (fun _ h => st_pk 3 [2, 1, 0] (by decide) h) ?_
          exact x_r1 rfl (rv_t rfl) (Le.refl _) ⟨_, rfl, g22, (⟨(pt b31 0, g39)⟩ : arc_Arc.G), rfl, rfl, rfl⟩
      · refine c_if (b := decide (a0.most ≤ r19)) rfl (fun h45 => ?_) fun h45 => ?_
        · have hm46 := ift hp27 h45
          clear hp27
          refine c_reg ?_
          refine r_u (o_mv rfl) ?_
          refine r_u (o_mv rfl) ?_
          refine r_u (o_bin rfl rfl (bI_eq a2 3)) ?_
          obtain ⟨r47, hr47, hm53⟩ := bs hm46
          clear hm46
          refine rl_st (fun _ h => mv1 h) ?_
          refine r_sw (s_w (o_call ca214 rfl (arc_Arc_replace.ok b0_ (⟨a0.most, p15, (some x3)⟩ : arc_Arc) (⟨(pt b4 0, g2)⟩ : arc_Arc.G) (a2 == 3) r47 hr47))) ?_
          rintro v48 R _ _ ⟨_, ⟨⟨pv51, g52⟩⟩, rfl, rfl, rfl⟩
          refine r_u (o_as rfl) ?_
          refine r_nil ?_
          obtain rfl := Option.some.inj hm53
          exact x_sub (K29 v48 (⟨(pv51, g52)⟩ : arc_Arc.G)) ⟨rfl, rfl, rfl, trivial⟩ (fun _ h => st_pk 3 [1, 0, 2] (by decide) h)
        · have hm46 := iff_ hp27 h45
          clear hp27
          refine c_skip ?_
          refine ex_st (fun _ h => st_nil (ap := true) (T := 9) (sz := 1) (en := eS) h) ?_
          obtain rfl := Option.some.inj hm46
          exact x_sub (K29 (.slice none 0 0) (⟨(pt b4 0, g2)⟩ : arc_Arc.G)) ⟨rfl, rfl, rfl, trivial⟩ (fun _ h => st_pk 3 [2, 0, 1] (by decide) h)
    · refine c_if (b := (a2 == 2)) rfl (fun h54 => ?_) fun h54 => ?_
      · have hm55 := ift hp16 h54
        clear hp16
        obtain ⟨h56, hm57⟩ := ig hm55
        clear hm55
        refine c_any mixed (effs := [17]) (V := []) ?_
        refine stage_st (fun _ h => mv5 h) ?_
        refine stage_ext [(0, pt b0_ 0), (1, pt b0_ 0), (2, pt b0_ 0), (3, pt b0_ 0), (4, vI a0.most), (5, pt b0_ 0), (6, pt b0_ 0), (7, pt b0_ 1), (8, vI a0.target), (9, vI r13), (10, vI r11), (11, vI (i64 (r13.tdiv r11))), (12, vI (if 1 < (i64 (r13.tdiv r11)) then i64 (r13.tdiv r11) else 1)), (13, vI (i64 (a0.target + (if 1 < (i64 (r13.tdiv r11)) then i64 (r13.tdiv r11) else 1)))), (14, vI (if (i64 (a0.target + (if 1 < (i64 (r13.tdiv r11)) then i64 (r13.tdiv r11) else 1))) < a0.most then i64 (a0.target + (if 1 < (i64 (r13.tdiv r11)) then i64 (r13.tdiv r11) else 1)) else a0.most)), (15, pt b0_ 0), (16, pt b0_ 1)] rfl ?_
        refine stage rfl rfl rfl rfl [0, 0, 2, 6, 14, 0, 32, 96, 224, 0, 0, 1536, 3584, 8160, 16382, 32767, 65535, 131071] [0, 1, 2, 3, 4, 5, 6, 7, 8, 9, 10, 11, 12, 13, 14, 15, 16] [17] rfl rfl rfl (qc rfl rfl (s_u (o_mv rfl)) (qc rfl rfl (s_u (o_mv rfl)) (qc rfl rfl (s_u (o_nc rfl)) (qc rfl rfl (s_u (o_fa fa193_0 rfl)) (qc rfl rfl (s_u (o_ld 0 sc3 rfl rfl rfl)) (qc rfl rfl (s_u (o_mv rfl)) (qc rfl rfl (s_u (o_nc rfl)) (qc rfl rfl (s_u (o_fa fa193_1 rfl)) (qc rfl rfl (s_u (o_ld 0 sc3 rfl rfl rfl)) (qc rfl rfl (s_u (o_mv rfl)) (qc rfl rfl (s_u (o_mv rfl)) (qc rfl rfl (s_u (o_bin rfl rfl (bI_quo r13 r11 h56))) (qc rfl rfl (s_u (o_maxI rfl rfl)) (qc rfl rfl (s_u (o_bin rfl rfl (bI_add a0.target (if 1 < (i64 (r13.tdiv r11)) then i64 (r13.tdiv r11) else 1)))) (qc rfl rfl (s_u (o_minI rfl rfl)) (qc rfl rfl (s_u (o_nc rfl)) (qc rfl rfl (s_u (o_fa fa193_1 rfl)) qn))))))))))))))))) ?_ (fun h => absurd h (by decide))
        refine ec (eo_u rfl (s_u (o_st sc3 rfl rfl rfl rfl rfl rfl)) (Le.refl _) ?_) en
        refine stage rfl rfl rfl rfl [0, 0, 2, 6, 14, 0, 32, 96, 224, 0, 0, 1536, 3584, 8160, 16382, 32767, 65535, 131071] [] [] rfl rfl rfl qn en ?_
        intro _
        refine ex_sub (E' := [(0, pt b0_ 0), (1, vS a1), (2, vI a2)]) ⟨rfl, rfl, rfl, trivial⟩ ?_
        obtain rfl := Option.some.inj hm57
        exact x_sub K18 ⟨rfl, rfl, rfl, trivial⟩ (fun _ h => st_pk 6 [0, 1, 2, 3, 4, 5] (by decide) h)
      · have hm55 := iff_ hp16 h54
        clear hp16
        obtain ⟨h58, hm59⟩ := ig hm55
        clear hm55
        refine c_any mixed (effs := [13]) (V := []) ?_
        refine stage_st (fun _ h => mv5 h) ?_
        refine stage_ext [(0, pt b0_ 0), (1, pt b0_ 0), (2, pt b0_ 0), (3, pt b0_ 1), (4, vI a0.target), (5, vI r11), (6, vI r13), (7, vI (i64 (r11.tdiv r13))), (8, vI (if 1 < (i64 (r11.tdiv r13)) then i64 (r11.tdiv r13) else 1)), (9, vI (i64 (a0.target - (if 1 < (i64 (r11.tdiv r13)) then i64 (r11.tdiv r13) else 1)))), (10, vI (if 0 < (i64 (a0.target - (if 1 < (i64 (r11.tdiv r13)) then i64 (r11.tdiv r13) else 1))) then i64 (a0.target - (if 1 < (i64 (r11.tdiv r13)) then i64 (r11.tdiv r13) else 1)) else 0)), (11, pt b0_ 0), (12, pt b0_ 1)] rfl ?_
        refine stage rfl rfl rfl rfl [0, 0, 2, 6, 14, 0, 0, 96, 224, 510, 1022, 2047, 4095, 8191] [0, 1, 2, 3, 4, 5, 6, 7, 8, 9, 10, 11, 12] [13] rfl rfl rfl (qc rfl rfl (s_u (o_mv rfl)) (qc rfl rfl (s_u (o_mv rfl)) (qc rfl rfl (s_u (o_nc rfl)) (qc rfl rfl (s_u (o_fa fa193_1 rfl)) (qc rfl rfl (s_u (o_ld 0 sc3 rfl rfl rfl)) (qc rfl rfl (s_u (o_mv rfl)) (qc rfl rfl (s_u (o_mv rfl)) (qc rfl rfl (s_u (o_bin rfl rfl (bI_quo r11 r13 h58))) (qc rfl rfl (s_u (o_maxI rfl rfl)) (qc rfl rfl (s_u (o_bin rfl rfl (bI_sub a0.target (if 1 < (i64 (r11.tdiv r13)) then i64 (r11.tdiv r13) else 1)))) (qc rfl rfl (s_u (o_maxI rfl rfl)) (qc rfl rfl (s_u (o_nc rfl)) (qc rfl rfl (s_u (o_fa fa193_1 rfl)) qn))))))))))))) ?_ (fun h => absurd h (by decide))
        refine ec (eo_u rfl (s_u (o_st sc3 rfl rfl rfl rfl rfl rfl)) (Le.refl _) ?_) en
        refine stage rfl rfl rfl rfl [0, 0, 2, 6, 14, 0, 0, 96, 224, 510, 1022, 2047, 4095, 8191] [] [] rfl rfl rfl qn en ?_
        intro _
        refine ex_sub (E' := [(0, pt b0_ 0), (1, vS a1), (2, vI a2)]) ⟨rfl, rfl, rfl, trivial⟩ ?_
        obtain rfl := Option.some.inj hm59
        exact x_sub K18 ⟨rfl, rfl, rfl, trivial⟩ (fun _ h => st_pk 6 [0, 1, 2, 3, 4, 5] (by decide) h)

def arc_Arc_forget (a0 : arc_Arc) (a1 : Int) : Option arc_Arc :=
  om a0.r (none) fun x3 => (ring_Rings_Back x3 a1).bind fun r11 => if r11.2 then (ring_Rings_Drop x3 r11.1).bind fun r15 => some (⟨a0.most, a0.target, (some r15.2)⟩ : arc_Arc) else some a0
theorem arc_Arc_forget.ok {G R F} (b0_ : Nat) (a0 : arc_Arc) (g0_ : arc_Arc.G) (a1 : Int) (r : arc_Arc) (hm : arc_Arc_forget a0 a1 = some r) : CO Tryz.prog 213 [pt b0_ 0, vI a1] G R (Bk b0_ 193 [vI a0.most, vI a0.target, g0_.r.1] :: rO (ring_Rings.op g0_.r.2) g0_.r.1 a0.r :: F)
    (Ret fun u R' L' => ∃ (q0 : arc_Arc.G), u = .tuple #[] ∧ R' = R ∧ L' = Bk b0_ 193 [vI r.most, vI r.target, q0.r.1] :: rO (ring_Rings.op q0.r.2) q0.r.1 r.r :: F) := by
  obtain ⟨⟨pv1, g2⟩⟩ := g0_
  unfold arc_Arc_forget at hm
  refine co_ofN (N := 22) Tryz.func213 rfl rfl ?_
  refine c_seq ?_
  refine cd_st (fun _ h => mv1 h) ?_
  refine cd_opt (fun ho5 => ?_) (fun x3 b4 ho5 => ?_)
  · rintro rfl
    have hm6 := om_n hm ho5
    clear hm
    cases hm6
  · rintro rfl
    have hm6 := om_s hm ho5
    clear hm
    refine cd_st (fun _ h => st_star_o h) ?_
    refine c_reg ?_
    refine r_u (o_mv rfl) ?_
    refine r_u (o_nc rfl) ?_
    refine r_u (o_fa fa193_2 rfl) ?_
    refine r_u (o_ld 5 sc191 rfl rfl rfl) ?_
    refine r_u (o_mv rfl) ?_
    obtain ⟨r11, hr11, hm12⟩ := bs hm6
    clear hm6
    refine r_c (s_w (o_call ca166 rfl (ring_Rings_Back.ok b4 x3 g2 a1 r11 hr11))) ?_
    refine r_u (o_mv rfl) ?_
    refine r_u (o_ext rfl rfl) ?_
    refine r_u (o_ext rfl rfl) ?_
    refine r_u (o_as rfl) ?_
    refine r_u (o_as rfl) ?_
    refine r_nil ?_
    refine x_seq ?_
    refine c_seq ?_
    refine c_reg ?_
    refine r_u (o_mv rfl) ?_
    refine r_nil ?_
    refine x_seq ?_
    refine c_if (b := r11.2) rfl (fun h13 => ?_) fun h13 => ?_
    · have hm14 := ift hm12 h13
      clear hm12
      refine c_reg ?_
      refine r_u (o_mv rfl) ?_
      refine r_u (o_nc rfl) ?_
      refine r_u (o_fa fa193_2 rfl) ?_
      refine r_u (o_ld 5 sc191 rfl rfl rfl) ?_
      refine r_u (o_mv rfl) ?_
      obtain ⟨r15, hr15, hm21⟩ := bs hm14
      clear hm14
      refine r_sw (s_w (o_call ca117 rfl (ring_Rings_Drop.ok b4 x3 g2 r11.1 r15 hr15))) ?_
      rintro _ R _ _ ⟨g16, rfl, rfl, rfl⟩
      refine r_nil ?_
      refine x_end ?_
      refine ex_st (fun _ h => st_some (f := ring_Rings.op g16) (a := r15.2) (st_star_f (A := ring_Rings.fl b4 r15.2 g16) h)) ?_
      obtain rfl := Option.some.inj hm21
      refine ex_st (fun _ h => st_pk 2 [1, 0] (by decide) h) ?_
      exact x_r0 rfl (Le.refl _) ⟨_, rfl, (⟨(pt b4 0, g16)⟩ : arc_Arc.G), rfl, rfl, rfl⟩
    · have hm14 := iff_ hm12 h13
      clear hm12
      refine c_skip ?_
      refine x_end ?_
      refine ex_st (fun _ h => st_some (f := ring_Rings.op g2) (a := x3) (st_star_f (A := ring_Rings.fl b4 x3 g2) h)) ?_
      refine ex_st (fun _ h => st_back ho5 h) ?_
      obtain rfl := Option.some.inj hm14
      refine ex_st (fun _ h => st_pk 2 [1, 0] (by decide) h) ?_
      exact x_r0 rfl (Le.refl _) ⟨_, rfl, (⟨(pt b4 0, g2)⟩ : arc_Arc.G), rfl, rfl, rfl⟩

def arc_Arc_Insert (a0 : arc_Arc) (a1 : Str) : Option (List Str × arc_Arc) :=
  Option.bind (if decide (64 < (a1.length : Int)) then some (true, a0) else (arc_Arc_Touch a0 a1).bind fun r168 => some (r168.1, r168.2)) fun p3 => if p3.1 then some ([], p3.2) else om p3.2.r (none) fun x13 => (ring_Rings_In x13 a1).bind fun r21 => if r21.2 then (arc_Arc_again (⟨p3.2.most, p3.2.target, (some x13)⟩ : arc_Arc) a1 r21.1).bind fun r25 => some (r25.1, r25.2) else (ring_Rings_Len x13 0).bind fun r32 => (ring_Rings_Len x13 2).bind fun r34 => (ring_Rings_Len x13 1).bind fun r36 => (ring_Rings_Len x13 3).bind fun r38 => Option.bind (if decide (p3.2.most ≤ (i64 (r32 + r34))) then some (decide (r32 < p3.2.most)) else some false) fun p40 => Option.bind (if p40 then (arc_Arc_forget (⟨p3.2.most, p3.2.target, (some x13)⟩ : arc_Arc) 2).bind fun r70 => (arc_Arc_Len r70).bind fun r76 => Option.bind (if decide (r70.most ≤ r76) then (arc_Arc_replace r70 false).bind fun r89 => some (r89.1, r89.2) else some ([], r70)) fun p78 => some (p78.1, p78.2) else Option.bind (if decide (p3.2.most ≤ (i64 (r32 + r34))) then (ring_Rings_Back x13 0).bind fun r107 => (ring_Rings_Drop x13 r107.1).bind fun r109 => some ([r107.1], (⟨p3.2.most, p3.2.target, (some r109.2)⟩ : arc_Arc)) else Option.bind (if decide (p3.2.most ≤ (i64 ((i64 ((i64 (r32 + r34)) + r36)) + r38))) then Option.bind (if decide ((i64 (2 * p3.2.most)) ≤ (i64 ((i64 ((i64 (r32 + r34)) + r36)) + r38))) then (arc_Arc_forget (⟨p3.2.most, p3.2.target, (some x13)⟩ : arc_Arc) 3).bind fun r158 => some r158 else some (⟨p3.2.most, p3.2.target, (some x13)⟩ : arc_Arc)) fun p128 => (arc_Arc_Len p128).bind fun r136 => Option.bind (if decide (p128.most ≤ r136) then (arc_Arc_replace p128 false).bind fun r149 => some (r149.1, r149.2) else some ([], p128)) fun p138 => some (p138.1, p138.2) else some ([], (⟨p3.2.most, p3.2.target, (some x13)⟩ : arc_Arc))) fun p117 => some (p117.1, p117.2)) fun p96 => some (p96.1, p96.2)) fun p44 => om p44.2.r (none) fun x53 => (ring_Rings_Front x53 0 a1).bind fun r61 => some (p44.1, (⟨p44.2.most, p44.2.target, (some r61.2)⟩ : arc_Arc))
theorem arc_Arc_Insert.ok {G R F} (b0_ : Nat) (a0 : arc_Arc) (g0_ : arc_Arc.G) (a1 : Str) (r : List Str × arc_Arc) (hm : arc_Arc_Insert a0 a1 = some r) : CO Tryz.prog 167 [pt b0_ 0, vS a1] G R (Bk b0_ 193 [vI a0.most, vI a0.target, g0_.r.1] :: rO (ring_Rings.op g0_.r.2) g0_.r.1 a0.r :: F)
    (Ret fun u R' L' => ∃ (p0 : Value) (q0 : arc_Arc.G), u = p0 ∧ R' = R ∧ L' = OwS true 9 1 eS p0 r.1 :: Bk b0_ 193 [vI r.2.most, vI r.2.target, q0.r.1] :: rO (ring_Rings.op q0.r.2) q0.r.1 r.2.r :: F) := by
  obtain ⟨⟨pv1, g2⟩⟩ := g0_
  unfold arc_Arc_Insert at hm
  refine co_ofN (N := 147) Tryz.func167 rfl rfl ?_
  refine c_seq ?_
  refine c_reg ?_
  refine r_u (o_as rfl) ?_
  refine r_nil ?_
  refine x_seq ?_
  refine c_seq ?_
  refine c_seq ?_
  obtain ⟨p3, hp8, hm9⟩ := bs hm
  refine cd_cut (fun x ks => ∀ (g4 : arc_Arc.G), EX x .normal ks [(0, pt b0_ 0), (1, vS a1), (23, vB p3.1)] R (Bk b0_ 193 [vI p3.2.most, vI p3.2.target, g4.r.1] :: rO (ring_Rings.op g4.r.2) g4.r.1 p3.2.r :: F)) ?_ fun K10 => ?_
  · intro g4
    obtain ⟨⟨pv6, g7⟩⟩ := g4
    refine x_seq ?_
    refine c_if (b := p3.1) rfl (fun h11 => ?_) fun h11 => ?_
    · have hm12 := ift hm9 h11
      clear hm9
      refine c_seq ?_
      refine c_reg ?_
      refine r_u (o_as rfl) ?_
      refine r_nil ?_
      refine x_seq ?_
      refine c_ret ?_
      refine ex_st (fun _ h => st_nil (ap := true) (T := 9) (sz := 1) (en := eS) h) ?_
      obtain rfl := Option.some.inj hm12
      exact x_r1 rfl (rv_t rfl) (Le.refl _) ⟨_, rfl, (.slice none 0 0), (⟨(pv6, g7)⟩ : arc_Arc.G), rfl, rfl, rfl⟩
    · have hm12 := iff_ hm9 h11
      clear hm9
      refine c_skip ?_
      refine x_seq ?_
      refine c_seq ?_
      refine c_seq ?_
      refine cd_st (fun _ h => mv1 h) ?_
      refine cd_opt (fun ho15 => ?_) (fun x13 b14 ho15 => ?_)
      · rintro rfl
        have hm16 := om_n hm12 ho15
        clear hm12
        cases hm16
      · rintro rfl
        have hm16 := om_s hm12 ho15
        clear hm12
        refine cd_st (fun _ h => st_star_o h) ?_
        refine c_reg ?_
        refine r_u (o_mv rfl) ?_
        refine r_u (o_nc rfl) ?_
        refine r_u (o_fa fa193_2 rfl) ?_
        refine r_u (o_ld 5 sc191 rfl rfl rfl) ?_
        refine r_u (o_mv rfl) ?_
        obtain ⟨r21, hr21, hm22⟩ := bs hm16
        clear hm16
        refine r_c (s_w (o_call ca160 rfl (ring_Rings_In.ok b14 x13 g7 a1 r21 hr21))) ?_
        refine r_u (o_mv rfl) ?_
        refine r_u (o_ext rfl rfl) ?_
        refine r_u (o_ext rfl rfl) ?_
        refine r_u (o_as rfl) ?_
        refine r_u (o_as rfl) ?_
        refine r_nil ?_
        refine x_seq ?_
        refine c_seq ?_
        refine c_reg ?_
        refine r_u (o_mv rfl) ?_
        refine r_nil ?_
        refine x_seq ?_
        refine c_if (b := r21.2) rfl (fun h23 => ?_) fun h23 => ?_
        · have hm24 := ift hm22 h23
          clear hm22
          refine c_seq ?_
          refine c_reg ?_
          refine r_u (o_mv rfl) ?_
          refine r_u (o_mv rfl) ?_
          refine r_u (o_mv rfl) ?_
          refine rl_st (fun _ h => st_some (f := ring_Rings.op g7) (a := x13) (st_star_f (A := ring_Rings.fl b14 x13 g7) h)) ?_
          obtain ⟨r25, hr25, hm31⟩ := bs hm24
          clear hm24
          refine rl_st (fun _ h => mv1 h) ?_
          refine r_sw (s_w (o_call ca212 rfl (arc_Arc_again.ok b0_ (⟨p3.2.most, p3.2.target, (some x13)⟩ : arc_Arc) (⟨(pt b14 0, g7)⟩ : arc_Arc.G) a1 r21.1 r25 hr25))) ?_
          rintro v26 R _ _ ⟨_, ⟨⟨pv29, g30⟩⟩, rfl, rfl, rfl⟩
          refine r_u (o_as rfl) ?_
          refine r_nil ?_
          refine x_seq ?_
          refine c_ret ?_
          obtain rfl := Option.some.inj hm31
          exact x_r1 rfl (rv_t rfl) (Le.refl _) ⟨_, rfl, v26, (⟨(pv29, g30)⟩ : arc_Arc.G), rfl, rfl, rfl⟩
        · have hm24 := iff_ hm22 h23
          clear hm22
          refine c_skip ?_
          refine x_seq ?_
          refine c_seq ?_
          refine c_reg ?_
          refine r_u (o_as rfl) ?_
          refine r_nil ?_
          refine x_seq ?_
          refine c_seq ?_
          obtain ⟨r32, hr32, hm33⟩ := bs hm24
          clear hm24
          obtain ⟨r34, hr34, hm35⟩ := bs hm33
          clear hm33
          refine c_any mixed (effs := []) (V := []) ?_
          refine stage_ext [(0, pt b0_ 0), (1, pt b0_ 0), (2, pt b0_ 2), (3, pt b14 0), (4, vI r32), (5, pt b0_ 0), (6, pt b0_ 0), (7, pt b0_ 2), (8, pt b14 0), (9, vI r34), (10, vI (i64 (r32 + r34))), (11, vI (i64 (r32 + r34)))] rfl ?_
          refine stage rfl rfl rfl rfl [0, 1, 3, 7, 15, 0, 32, 96, 224, 511, 1023, 2047] [0, 1, 2, 3, 4, 5, 6, 7, 8, 9, 10, 11] [] rfl rfl rfl (qc rfl rfl (s_u (o_mv rfl)) (qc rfl rfl (s_u (o_nc rfl)) (qc rfl rfl (s_u (o_fa fa193_2 rfl)) (qc rfl rfl (s_u (o_ld 5 sc191 rfl rfl rfl)) (qc rfl rfl (s_u (o_callqP ca164 rfl (ring_Rings_Len.ok b14 x13 g7 0 r32 hr32) (fun _ h => st_pk 6 [0, 1, 2, 3, 4, 5] (by decide) h) (fun _ h => st_pk 6 [0, 1, 2, 3, 4, 5] (by decide) h))) (qc rfl rfl (s_u (o_mv rfl)) (qc rfl rfl (s_u (o_nc rfl)) (qc rfl rfl (s_u (o_fa fa193_2 rfl)) (qc rfl rfl (s_u (o_ld 5 sc191 rfl rfl rfl)) (qc rfl rfl (s_u (o_callqP ca164 rfl (ring_Rings_Len.ok b14 x13 g7 2 r34 hr34) (fun _ h => st_pk 6 [0, 1, 2, 3, 4, 5] (by decide) h) (fun _ h => st_pk 6 [0, 1, 2, 3, 4, 5] (by decide) h))) (qc rfl rfl (s_u (o_bin rfl rfl (bI_add r32 r34))) (qc rfl rfl (s_u (o_as rfl)) qn)))))))))))) en ?_
          intro _
          refine ex_sub (E' := [(0, pt b0_ 0), (1, vS a1), (7, .slice none 0 0), (8, vI (i64 (r32 + r34)))]) ⟨rfl, rfl, rfl, rfl, trivial⟩ ?_
          refine x_seq ?_
          refine c_seq ?_
          obtain ⟨r36, hr36, hm37⟩ := bs hm35
          clear hm35
          obtain ⟨r38, hr38, hm39⟩ := bs hm37
          clear hm37
          refine c_any mixed (effs := []) (V := []) ?_
          refine stage_ext [(0, vI (i64 (r32 + r34))), (1, pt b0_ 0), (2, pt b0_ 0), (3, pt b0_ 2), (4, pt b14 0), (5, vI r36), (6, vI (i64 ((i64 (r32 + r34)) + r36))), (7, pt b0_ 0), (8, pt b0_ 0), (9, pt b0_ 2), (10, pt b14 0), (11, vI r38), (12, vI (i64 ((i64 ((i64 (r32 + r34)) + r36)) + r38))), (13, vI (i64 ((i64 ((i64 (r32 + r34)) + r36)) + r38)))] rfl ?_
          refine stage rfl rfl rfl rfl [0, 0, 2, 6, 14, 30, 63, 0, 128, 384, 896, 1982, 4095, 8191] [0, 1, 2, 3, 4, 5, 6, 7, 8, 9, 10, 11, 12, 13] [] rfl rfl rfl (qc rfl rfl (s_u (o_mv rfl)) (qc rfl rfl (s_u (o_mv rfl)) (qc rfl rfl (s_u (o_nc rfl)) (qc rfl rfl (s_u (o_fa fa193_2 rfl)) (qc rfl rfl (s_u (o_ld 5 sc191 rfl rfl rfl)) (qc rfl rfl (s_u (o_callqP ca164 rfl (ring_Rings_Len.ok b14 x13 g7 1 r36 hr36) (fun _ h => st_pk 6 [0, 1, 2, 3, 4, 5] (by decide) h) (fun _ h => st_pk 6 [0, 1, 2, 3, 4, 5] (by decide) h))) (qc rfl rfl (s_u (o_bin rfl rfl (bI_add (i64 (r32 + r34)) r36))) (qc rfl rfl (s_u (o_mv rfl)) (qc rfl rfl (s_u (o_nc rfl)) (qc rfl rfl (s_u (o_fa fa193_2 rfl)) (qc rfl rfl (s_u (o_ld 5 sc191 rfl rfl rfl)) (qc rfl rfl (s_u (o_callqP ca164 rfl (ring_Rings_Len.ok b14 x13 g7 3 r38 hr38) (fun _ h => st_pk 6 [0, 1, 2, 3, 4, 5] (by decide) h) (fun _ h => st_pk 6 [0, 1, 2, 3, 4, 5] (by decide) h))) (qc rfl rfl (s_u (o_bin rfl rfl (bI_add (i64 ((i64 (r32 + r34)) + r36)) r38))) (qc rfl rfl (s_u (o_as rfl)) qn)))))))))))))) en ?_
          intro _
          refine ex_sub (E' := [(0, pt b0_ 0), (1, vS a1), (7, .slice none 0 0), (8, vI (i64 (r32 + r34))), (9, vI (i64 ((i64 ((i64 (r32 + r34)) + r36)) + r38)))]) ⟨rfl, rfl, rfl, rfl, rfl, trivial⟩ ?_
          refine x_seq ?_
          refine c_seq ?_
          refine c_blk ?_
          refine c_seq ?_
          obtain ⟨p40, hp41, hm42⟩ := bs hm39
          refine cd_join (E' := [(0, pt b0_ 0), (1, vS a1), (7, .slice none 0 0), (8, vI (i64 (r32 + r34))), (9, vI (i64 ((i64 ((i64 (r32 + r34)) + r36)) + r38))), (62, vB p40)]) (L' := Bk b14 237 [vI x13.lists, g7.slots, g7.free, g7.at_, g7.many] :: Bk b0_ 193 [vI p3.2.most, vI p3.2.target, pt b14 0] :: OwS true 240 4 ring_slot.c g7.slots x13.slots :: OwS true 3 1 eI g7.free x13.free :: OwM vS vI g7.at_ x13.at_ :: OwS true 3 1 eI g7.many x13.many :: F) ?_ fun K43 => ?_
          · refine x_seq ?_
            obtain ⟨p44, hp50, hm51⟩ := bs hm42
            refine cd_cut (fun x ks => ∀ (g45 : Value), ∀ (g46 : arc_Arc.G), EX x .normal ks [(0, pt b0_ 0), (1, vS a1), (7, g45)] R (Bk b0_ 193 [vI p44.2.most, vI p44.2.target, g46.r.1] :: OwS true 9 1 eS g45 p44.1 :: rO (ring_Rings.op g46.r.2) g46.r.1 p44.2.r :: F)) ?_ fun K52 => ?_
            · intro g45 g46
              obtain ⟨⟨pv48, g49⟩⟩ := g46
              refine x_blk ?_
              refine x_seq ?_
              refine c_seq ?_
              refine cd_st (fun _ h => mv2 h) ?_
              refine cd_opt (fun ho55 => ?_) (fun x53 b54 ho55 => ?_)
              · rintro rfl
                have hm56 := om_n hm51 ho55
                clear hm51
                cases hm56
              · rintro rfl
                have hm56 := om_s hm51 ho55
                clear hm51
                refine cd_st (fun _ h => st_star_o h) ?_
                refine c_reg ?_
                refine r_u (o_mv rfl) ?_
                refine r_u (o_nc rfl) ?_
                refine r_u (o_fa fa193_2 rfl) ?_
                refine r_u (o_ld 5 sc191 rfl rfl rfl) ?_
                refine r_u (o_mv rfl) ?_
                obtain ⟨r61, hr61, hm67⟩ := bs hm56
                clear hm56
                refine r_sw (s_w (o_call ca163 rfl (ring_Rings_Front.ok b54 x53 g49 0 a1 r61 hr61))) ?_
                rintro _ R _ _ ⟨g62, rfl, rfl, rfl⟩
                refine r_nil ?_
                refine x_seq ?_
                refine c_seq ?_
                refine c_reg ?_
                refine r_u (o_mv rfl) ?_
                refine r_u (o_as rfl) ?_
                refine r_nil ?_
                refine x_seq ?_
                refine c_ret ?_
                refine ex_st (fun _ h => st_some (f := ring_Rings.op g62) (a := r61.2) (st_star_f (A := ring_Rings.fl b54 r61.2 g62) h)) ?_
                obtain rfl := Option.some.inj hm67
                refine ex_st (fun _ h => st_pk 3 [2, 1, 0] (by decide) h) ?_
                exact x_r1 rfl (rv_t rfl) (Le.refl _) ⟨_, rfl, g45, (⟨(pt b54 0, g62)⟩ : arc_Arc.G), rfl, rfl, rfl⟩
            · refine c_if (b := p40) rfl (fun h68 => ?_) fun h68 => ?_
              · have hm69 := ift hp50 h68
                clear hp50
                refine c_seq ?_
                refine c_reg ?_
                refine r_u (o_mv rfl) ?_
                refine rl_st (fun _ h => mv4 (mv5 (mv5 (mv5 (mv5 h))))) ?_
                refine rl_st (fun _ h => st_some (f := ring_Rings.op g7) (a := x13) (st_star_f (A := ring_Rings.fl b14 x13 g7) h)) ?_
                obtain ⟨r70, hr70, hm75⟩ := bs hm69
                clear hm69
                refine rl_st (fun _ h => mv1 h) ?_
                refine r_sw (s_w (o_call ca213 rfl (arc_Arc_forget.ok b0_ (⟨p3.2.most, p3.2.target, (some x13)⟩ : arc_Arc) (⟨(pt b14 0, g7)⟩ : arc_Arc.G) 2 r70 hr70))) ?_
                rintro _ R _ _ ⟨⟨⟨pv73, g74⟩⟩, rfl, rfl, rfl⟩
                refine r_nil ?_
                refine x_seq ?_
                refine c_seq ?_
                obtain ⟨r76, hr76, hm77⟩ := bs hm75
                clear hm75
                refine c_any mixed (effs := []) (V := []) ?_
                refine stage_ext [(0, pt b0_ 0), (1, vI r76), (2, pt b0_ 0), (3, pt b0_ 0), (4, pt b0_ 0), (5, vI r70.most), (6, vB (decide (r70.most ≤ r76)))] rfl ?_
                refine stage rfl rfl rfl rfl [0, 1, 0, 4, 12, 28, 63] [0, 1, 2, 3, 4, 5, 6] [] rfl rfl rfl (qc rfl rfl (s_u (o_mv rfl)) (qc rfl rfl (s_u (o_callqP ca157 rfl (arc_Arc_Len.ok b0_ r70 (⟨(pv73, g74)⟩ : arc_Arc.G) r76 hr76) (fun _ h => st_pk 2 [0, 1] (by decide) h) (fun _ h => st_pk 2 [0, 1] (by decide) h))) (qc rfl rfl (s_u (o_mv rfl)) (qc rfl rfl (s_u (o_nc rfl)) (qc rfl rfl (s_u (o_fa fa193_0 rfl)) (qc rfl rfl (s_u (o_ld 0 sc3 rfl rfl rfl)) (qc rfl rfl (s_u (o_bin rfl rfl (bI_ge r76 r70.most))) qn))))))) en ?_
                intro _
                refine ex_sub (E' := [(0, pt b0_ 0), (1, vS a1), (7, .slice none 0 0), (89, vB (decide (r70.most ≤ r76)))]) ⟨rfl, rfl, rfl, rfl, trivial⟩ ?_
                refine x_seq ?_
                obtain ⟨p78, hp84, hm85⟩ := bs hm77
                refine cd_cut (fun x ks => ∀ (g79 : Value), ∀ (g80 : arc_Arc.G), EX x .normal ks [(0, pt b0_ 0), (1, vS a1), (7, g79)] R (Bk b0_ 193 [vI p78.2.most, vI p78.2.target, g80.r.1] :: OwS true 9 1 eS g79 p78.1 :: rO (ring_Rings.op g80.r.2) g80.r.1 p78.2.r :: F)) ?_ fun K86 => ?_
                · intro g79 g80
                  obtain ⟨⟨pv82, g83⟩⟩ := g80
                  obtain rfl := Option.some.inj hm85
                  exact x_sub (K52 g79 (⟨(pv82, g83)⟩ : arc_Arc.G)) ⟨rfl, rfl, rfl, trivial⟩ (fun _ h => st_pk 3 [0, 1, 2] (by decide) h)
                · refine c_if (b := decide (r70.most ≤ r76)) rfl (fun h87 => ?_) fun h87 => ?_
                  · have hm88 := ift hp84 h87
                    clear hp84
                    refine c_reg ?_
                    refine r_u (o_mv rfl) ?_
                    obtain ⟨r89, hr89, hm95⟩ := bs hm88
                    clear hm88
                    refine r_sw (s_w (o_call ca214 rfl (arc_Arc_replace.ok b0_ r70 (⟨(pv73, g74)⟩ : arc_Arc.G) false r89 hr89))) ?_
                    rintro v90 R _ _ ⟨_, ⟨⟨pv93, g94⟩⟩, rfl, rfl, rfl⟩
                    refine r_u (o_as rfl) ?_
                    refine r_nil ?_
                    obtain rfl := Option.some.inj hm95
                    exact x_sub (K86 v90 (⟨(pv93, g94)⟩ : arc_Arc.G)) ⟨rfl, rfl, rfl, trivial⟩ (fun _ h => st_pk 3 [1, 0, 2] (by decide) h)
                  · have hm88 := iff_ hp84 h87
                    clear hp84
                    refine c_skip ?_
                    refine ex_st (fun _ h => st_nil (ap := true) (T := 9) (sz := 1) (en := eS) h) ?_
                    obtain rfl := Option.some.inj hm88
                    exact x_sub (K86 (.slice none 0 0) (⟨(pv73, g74)⟩ : arc_Arc.G)) ⟨rfl, rfl, rfl, trivial⟩ (fun _ h => st_pk 3 [1, 0, 2] (by decide) h)
              · have hm69 := iff_ hp50 h68
                clear hp50
                refine c_seq ?_
                refine c_reg ?_
                refine r_u (o_mv rfl) ?_
                refine r_u (o_mv rfl) ?_
                refine r_u (o_nc rfl) ?_
                refine r_u (o_fa fa193_0 rfl) ?_
                refine r_u (o_ld 1 sc3 rfl rfl rfl) ?_
                refine r_u (o_bin rfl rfl (bI_ge (i64 (r32 + r34)) p3.2.most)) ?_
                refine r_u (o_as rfl) ?_
                refine r_nil ?_
                refine x_seq ?_
                obtain ⟨p96, hp102, hm103⟩ := bs hm69
                refine cd_cut (fun x ks => ∀ (g97 : Value), ∀ (g98 : arc_Arc.G), EX x .normal ks [(0, pt b0_ 0), (1, vS a1), (7, g97)] R (Bk b0_ 193 [vI p96.2.most, vI p96.2.target, g98.r.1] :: OwS true 9 1 eS g97 p96.1 :: rO (ring_Rings.op g98.r.2) g98.r.1 p96.2.r :: F)) ?_ fun K104 => ?_
                · intro g97 g98
                  obtain ⟨⟨pv100, g101⟩⟩ := g98
                  obtain rfl := Option.some.inj hm103
                  exact x_sub (K52 g97 (⟨(pv100, g101)⟩ : arc_Arc.G)) ⟨rfl, rfl, rfl, trivial⟩ (fun _ h => st_pk 3 [0, 1, 2] (by decide) h)
                · refine c_if (b := decide (p3.2.most ≤ (i64 (r32 + r34)))) rfl (fun h105 => ?_) fun h105 => ?_
                  · have hm106 := ift hp102 h105
                    clear hp102
                    refine c_seq ?_
                    refine c_reg ?_
                    refine r_u (o_mv rfl) ?_
                    refine r_u (o_nc rfl) ?_
                    refine r_u (o_fa fa193_2 rfl) ?_
                    refine r_u (o_ld 1 sc191 rfl rfl rfl) ?_
                    obtain ⟨r107, hr107, hm108⟩ := bs hm106
                    clear hm106
                    refine rl_st (fun _ h => mv4 (mv5 (mv5 (mv5 (mv5 h))))) ?_
                    refine r_c (s_w (o_call ca166 rfl (ring_Rings_Back.ok b14 x13 g7 0 r107 hr107))) ?_
                    refine r_u (o_mv rfl) ?_
                    refine r_u (o_ext rfl rfl) ?_
                    refine r_u (o_ext rfl rfl) ?_
                    refine r_u (o_as rfl) ?_
                    refine r_u (o_as rfl) ?_
                    refine r_nil ?_
                    refine x_seq ?_
                    refine c_seq ?_
                    refine c_reg ?_
                    refine r_u (o_mv rfl) ?_
                    refine r_u (o_nc rfl) ?_
                    refine r_u (o_fa fa193_2 rfl) ?_
                    refine r_u (o_ld 5 sc191 rfl rfl rfl) ?_
                    refine r_u (o_mv rfl) ?_
                    obtain ⟨r109, hr109, hm115⟩ := bs hm108
                    clear hm108
                    refine r_sw (s_w (o_call ca117 rfl (ring_Rings_Drop.ok b14 x13 g7 r107.1 r109 hr109))) ?_
                    rintro _ R _ _ ⟨g110, rfl, rfl, rfl⟩
                    refine r_nil ?_
                    refine x_seq ?_
                    refine c_reg ?_
                    refine r_u (o_mv rfl) ?_
                    refine r_sw (s_w (o_bsl (en := eS) (sz := 1) (e := 9) (cs := [vS r107.1]) (r := [r107.1]) rfl (fun _ => by kernel_rfl) rfl (by decide) rfl (fun _ => rfl))) ?_
                    rintro v116 R _ _ ⟨rfl, rfl⟩
                    refine r_u (o_as rfl) ?_
                    refine r_nil ?_
                    refine ex_st (fun _ h => mv5 (mv5 (mv5 (mv5 (mv5 h))))) ?_
                    refine ex_st (fun _ h => st_some (f := ring_Rings.op g110) (a := r109.2) (st_star_f (A := ring_Rings.fl b14 r109.2 g110) h)) ?_
                    obtain rfl := Option.some.inj hm115
                    exact x_sub (K104 v116 (⟨(pt b14 0, g110)⟩ : arc_Arc.G)) ⟨rfl, rfl, rfl, trivial⟩ (fun _ h => st_pk 3 [2, 1, 0] (by decide) h)
                  · have hm106 := iff_ hp102 h105
                    clear hp102
                    refine c_seq ?_
                    refine c_reg ?_
                    refine r_u (o_mv rfl) ?_
                    refine r_u (o_mv rfl) ?_
                    refine r_u (o_nc rfl) ?_
                    refine r_u (o_fa fa193_0 rfl) ?_
                    refine r_u (o_ld 1 sc3 rfl rfl rfl) ?_
                    refine r_u (o_bin rfl rfl (bI_ge (i64 ((i64 ((i64 (r32 + r34)) + r36)) + r38)) p3.2.most)) ?_
                    refine r_u (o_as rfl) ?_
                    refine r_nil ?_
                    refine x_seq ?_
                    obtain ⟨p117, hp123, hm124⟩ := bs hm106
                    refine cd_cut (fun x ks => ∀ (g118 : Value), ∀ (g119 : arc_Arc.G), EX x .normal ks [(0, pt b0_ 0), (1, vS a1), (7, g118)] R (Bk b0_ 193 [vI p117.2.most, vI p117.2.target, g119.r.1] :: OwS true 9 1 eS g118 p117.1 :: rO (ring_Rings.op g119.r.2) g119.r.1 p117.2.r :: F)) ?_ fun K125 => ?_
                    · intro g118 g119
                      obtain ⟨⟨pv121, g122⟩⟩ := g119
                      obtain rfl := Option.some.inj hm124
                      exact x_sub (K104 g118 (⟨(pv121, g122)⟩ : arc_Arc.G)) ⟨rfl, rfl, rfl, trivial⟩ (fun _ h => st_pk 3 [0, 1, 2] (by decide) h)
                    · refine c_if (b := decide (p3.2.most ≤ (i64 ((i64 ((i64 (r32 + r34)) + r36)) + r38)))) rfl (fun h126 => ?_) fun h126 => ?_
                      · have hm127 := ift hp123 h126
                        clear hp123
                        refine c_seq ?_
                        refine c_seq ?_
                        refine c_reg ?_
                        refine r_u (o_mv rfl) ?_
                        refine r_u (o_mv rfl) ?_
                        refine r_u (o_nc rfl) ?_
                        refine r_u (o_fa fa193_0 rfl) ?_
                        refine r_u (o_ld 1 sc3 rfl rfl rfl) ?_
                        refine r_u (o_bin rfl rfl (bI_mul 2 p3.2.most)) ?_
                        refine r_u (o_bin rfl rfl (bI_ge (i64 ((i64 ((i64 (r32 + r34)) + r36)) + r38)) (i64 (2 * p3.2.most)))) ?_
                        refine r_nil ?_
                        refine x_seq ?_
                        obtain ⟨p128, hp133, hm134⟩ := bs hm127
                        refine cd_cut (fun x ks => ∀ (g129 : arc_Arc.G), EX x .normal ks [(0, pt b0_ 0), (1, vS a1), (7, .slice none 0 0)] R (Bk b0_ 193 [vI p128.most, vI p128.target, g129.r.1] :: rO (ring_Rings.op g129.r.2) g129.r.1 p128.r :: F)) ?_ fun K135 => ?_
                        · intro g129
                          obtain ⟨⟨pv131, g132⟩⟩ := g129
                          refine x_seq ?_
                          refine c_seq ?_
                          obtain ⟨r136, hr136, hm137⟩ := bs hm134
                          clear hm134
                          refine c_any mixed (effs := []) (V := []) ?_
                          refine stage_ext [(0, pt b0_ 0), (1, vI r136), (2, pt b0_ 0), (3, pt b0_ 0), (4, pt b0_ 0), (5, vI p128.most), (6, vB (decide (p128.most ≤ r136)))] rfl ?_
                          refine stage rfl rfl rfl rfl [0, 1, 0, 4, 12, 28, 63] [0, 1, 2, 3, 4, 5, 6] [] rfl rfl rfl (qc rfl rfl (s_u (o_mv rfl)) (qc rfl rfl (s_u (o_callqP ca157 rfl (arc_Arc_Len.ok b0_ p128 (⟨(pv131, g132)⟩ : arc_Arc.G) r136 hr136) (fun _ h => st_pk 2 [0, 1] (by decide) h) (fun _ h => st_pk 2 [0, 1] (by decide) h))) (qc rfl rfl (s_u (o_mv rfl)) (qc rfl rfl (s_u (o_nc rfl)) (qc rfl rfl (s_u (o_fa fa193_0 rfl)) (qc rfl rfl (s_u (o_ld 0 sc3 rfl rfl rfl)) (qc rfl rfl (s_u (o_bin rfl rfl (bI_ge r136 p128.most))) qn))))))) en ?_
                          intro _
                          refine ex_sub (E' := [(0, pt b0_ 0), (1, vS a1), (7, .slice none 0 0), (137, vB (decide (p128.most ≤ r136)))]) ⟨rfl, rfl, rfl, rfl, trivial⟩ ?_
                          refine x_seq ?_
                          obtain ⟨p138, hp144, hm145⟩ := bs hm137
                          refine cd_cut (fun x ks => ∀ (g139 : Value), ∀ (g140 : arc_Arc.G), EX x .normal ks [(0, pt b0_ 0), (1, vS a1), (7, g139)] R (Bk b0_ 193 [vI p138.2.most, vI p138.2.target, g140.r.1] :: OwS true 9 1 eS g139 p138.1 :: rO (ring_Rings.op g140.r.2) g140.r.1 p138.2.r :: F)) ?_ fun K146 => ?_
                          · intro g139 g140
                            obtain ⟨⟨pv142, g143⟩⟩ := g140
                            obtain rfl := Option.some.inj hm145
                            exact x_sub (K125 g139 (⟨(pv142, g143)⟩ : arc_Arc.G)) ⟨rfl, rfl, rfl, trivial⟩ (fun _ h => st_pk 3 [0, 1, 2] (by decide) h)
                          · refine c_if (b := decide (p128.most ≤ r136)) rfl (fun h147 => ?_) fun h147 => ?_
                            · have hm148 := ift hp144 h147
                              clear hp144
                              refine c_reg ?_
                              refine r_u (o_mv rfl) ?_
                              obtain ⟨r149, hr149, hm155⟩ := bs hm148
                              clear hm148
                              refine r_sw (s_w (o_call ca214 rfl (arc_Arc_replace.ok b0_ p128 (⟨(pv131, g132)⟩ : arc_Arc.G) false r149 hr149))) ?_
                              rintro v150 R _ _ ⟨_, ⟨⟨pv153, g154⟩⟩, rfl, rfl, rfl⟩
                              refine r_u (o_as rfl) ?_
                              refine r_nil ?_
                              obtain rfl := Option.some.inj hm155
                              exact x_sub (K146 v150 (⟨(pv153, g154)⟩ : arc_Arc.G)) ⟨rfl, rfl, rfl, trivial⟩ (fun _ h => st_pk 3 [1, 0, 2] (by decide) h)
                            · have hm148 := iff_ hp144 h147
                              clear hp144
                              refine c_skip ?_
                              refine ex_st (fun _ h => st_nil (ap := true) (T := 9) (sz := 1) (en := eS) h) ?_
                              obtain rfl := Option.some.inj hm148
                              exact x_sub (K146 (.slice none 0 0) (⟨(pv131, g132)⟩ : arc_Arc.G)) ⟨rfl, rfl, rfl, trivial⟩ (fun _ h => st_pk 3 [1, 0, 2] (by decide) h)
                        · refine c_if (b := decide ((i64 (2 * p3.2.most)) ≤ (i64 ((i64 ((i64 (r32 + r34)) + r36)) + r38)))) rfl (fun h156 => ?_) fun h156 => ?_
                          · have hm157 := ift hp133 h156
                            clear hp133
                            refine c_reg ?_
                            refine r_u (o_mv rfl) ?_
                            refine rl_st (fun _ h => mv4 (mv5 (mv5 (mv5 (mv5 h))))) ?_
                            refine rl_st (fun _ h => st_some (f := ring_Rings.op g7) (a := x13) (st_star_f (A := ring_Rings.fl b14 x13 g7) h)) ?_
                            obtain ⟨r158, hr158, hm163⟩ := bs hm157
                            clear hm157
                            refine rl_st (fun _ h => mv1 h) ?_
                            refine r_sw (s_w (o_call ca213 rfl (arc_Arc_forget.ok b0_ (⟨p3.2.most, p3.2.target, (some x13)⟩ : arc_Arc) (⟨(pt b14 0, g7)⟩ : arc_Arc.G) 3 r158 hr158))) ?_
                            rintro _ R _ _ ⟨⟨⟨pv161, g162⟩⟩, rfl, rfl, rfl⟩
                            refine r_nil ?_
                            obtain rfl := Option.some.inj hm163
                            exact x_sub (K135 (⟨(pv161, g162)⟩ : arc_Arc.G)) ⟨rfl, rfl, rfl, trivial⟩ (fun _ h => st_pk 2 [0, 1] (by decide) h)
                          · have hm157 := iff_ hp133 h156
                            clear hp133
                            refine c_skip ?_
                            refine ex_st (fun _ h => mv4 (mv5 (mv5 (mv5 (mv5 h))))) ?_
                            refine ex_st (fun _ h => st_some (f := ring_Rings.op g7) (a := x13) (st_star_f (A := ring_Rings.fl b14 x13 g7) h)) ?_
                            obtain rfl := Option.some.inj hm157
                            exact x_sub (K135 (⟨(pt b14 0, g7)⟩ : arc_Arc.G)) ⟨rfl, rfl, rfl, trivial⟩ (fun _ h => st_pk 2 [1, 0] (by decide) h)
                      · have hm127 := iff_ hp123 h126
                        clear hp123
                        refine c_skip ?_
                        refine ex_st (fun _ h => st_nil (ap := true) (T := 9) (sz := 1) (en := eS) h) ?_
                        refine ex_st (fun _ h => mv5 (mv6 (mv6 (mv6 (mv6 h))))) ?_
                        refine ex_st (fun _ h => st_some (f := ring_Rings.op g7) (a := x13) (st_star_f (A := ring_Rings.fl b14 x13 g7) h)) ?_
                        obtain rfl := Option.some.inj hm127
                        exact x_sub (K125 (.slice none 0 0) (⟨(pt b14 0, g7)⟩ : arc_Arc.G)) ⟨rfl, rfl, rfl, trivial⟩ (fun _ h => st_pk 3 [2, 1, 0] (by decide) h)
          · refine cd_by (decide (p3.2.most ≤ (i64 (r32 + r34)))) (fun h164 => ?_) fun h164 => ?_
            · have hm165 := ift hp41 h164
              clear hp41
              refine c_any mixed (effs := []) (V := []) ?_
              refine stage_ext [(0, vI (i64 (r32 + r34))), (1, pt b0_ 0), (2, pt b0_ 0), (3, pt b0_ 0), (4, vI p3.2.most), (5, vB (decide (p3.2.most ≤ (i64 (r32 + r34))))), (6, vB (decide (p3.2.most ≤ (i64 (r32 + r34))))), (7, pt b0_ 0), (8, pt b0_ 0), (9, pt b0_ 2), (10, pt b14 0), (11, vI r32), (12, pt b0_ 0), (13, pt b0_ 0), (14, pt b0_ 0), (15, vI p3.2.most), (16, vB (decide (r32 < p3.2.most))), (17, vB (decide (r32 < p3.2.most))), (18, vB (decide (r32 < p3.2.most)))] rfl ?_
              refine stage rfl rfl rfl rfl [0, 0, 2, 6, 14, 31, 63, 127, 255, 511, 1023, 2047, 127, 4223, 12415, 28799, 65535, 131071, 262143] [0, 1, 2, 3, 4, 5, 6, 7, 8, 9, 10, 11, 12, 13, 14, 15, 16, 17, 18] [] rfl rfl rfl (qc rfl rfl (s_u (o_mv rfl)) (qc rfl rfl (s_u (o_mv rfl)) (qc rfl rfl (s_u (o_nc rfl)) (qc rfl rfl (s_u (o_fa fa193_0 rfl)) (qc rfl rfl (s_u (o_ld 5 sc3 rfl rfl rfl)) (qc rfl rfl (s_u (o_bin rfl rfl (bI_ge (i64 (r32 + r34)) p3.2.most))) (qc rfl rfl (s_u (o_mv rfl)) (qc rfl rfl (s_y rfl rfl h164 (o_mv rfl)) (qc rfl rfl (s_y rfl rfl h164 (o_nc rfl)) (qc rfl rfl (s_y rfl rfl h164 (o_fa fa193_2 rfl)) (qc rfl rfl (s_y rfl rfl h164 (o_ld 5 sc191 rfl rfl rfl)) (qc rfl rfl (s_y rfl rfl h164 (o_callqP ca164 rfl (ring_Rings_Len.ok b14 x13 g7 0 r32 hr32) (fun _ h => st_pk 6 [0, 1, 2, 3, 4, 5] (by decide) h) (fun _ h => st_pk 6 [0, 1, 2, 3, 4, 5] (by decide) h))) (qc rfl rfl (s_y rfl rfl h164 (o_mv rfl)) (qc rfl rfl (s_y rfl rfl h164 (o_nc rfl)) (qc rfl rfl (s_y rfl rfl h164 (o_fa fa193_0 rfl)) (qc rfl rfl (s_y rfl rfl h164 (o_ld 5 sc3 rfl rfl rfl)) (qc rfl rfl (s_y rfl rfl h164 (o_bin rfl rfl (bI_lt r32 p3.2.most))) (qc rfl rfl (s_u (o_pt rfl h164 rfl)) (qc rfl rfl (s_u (o_as rfl)) qn))))))))))))))))))) en ?_
              intro _
              refine ex_sub (E' := [(0, pt b0_ 0), (1, vS a1), (7, .slice none 0 0), (8, vI (i64 (r32 + r34))), (9, vI (i64 ((i64 ((i64 (r32 + r34)) + r36)) + r38))), (62, vB (decide (r32 < p3.2.most)))]) ⟨rfl, rfl, rfl, rfl, rfl, rfl, trivial⟩ ?_
              obtain rfl := Option.some.inj hm165
              exact x_sub K43 ⟨rfl, rfl, rfl, rfl, rfl, rfl, trivial⟩ (fun _ h => st_pk 6 [0, 5, 1, 2, 3, 4] (by decide) h)
            · have hm165 := iff_ hp41 h164
              clear hp41
              refine c_any mixed (effs := []) (V := []) ?_
              refine stage_ext [(0, vI (i64 (r32 + r34))), (1, pt b0_ 0), (2, pt b0_ 0), (3, pt b0_ 0), (4, vI p3.2.most), (5, vB (decide (p3.2.most ≤ (i64 (r32 + r34))))), (6, vB (decide (p3.2.most ≤ (i64 (r32 + r34))))), (7, undef), (8, undef), (9, undef), (10, undef), (11, undef), (12, undef), (13, undef), (14, undef), (15, undef), (16, undef), (17, vB false), (18, vB false)] rfl ?_
              refine stage rfl rfl rfl rfl [0, 0, 2, 6, 14, 31, 63, 127, 255, 511, 1023, 2047, 127, 4223, 12415, 28799, 65535, 131071, 262143] [0, 1, 2, 3, 4, 5, 6, 7, 8, 9, 10, 11, 12, 13, 14, 15, 16, 17, 18] [] rfl rfl rfl (qc rfl rfl (s_u (o_mv rfl)) (qc rfl rfl (s_u (o_mv rfl)) (qc rfl rfl (s_u (o_nc rfl)) (qc rfl rfl (s_u (o_fa fa193_0 rfl)) (qc rfl rfl (s_u (o_ld 5 sc3 rfl rfl rfl)) (qc rfl rfl (s_u (o_bin rfl rfl (bI_ge (i64 (r32 + r34)) p3.2.most))) (qc rfl rfl (s_u (o_mv rfl)) (qc rfl rfl (s_n rfl rfl h164) (qc rfl rfl (s_n rfl rfl h164) (qc rfl rfl (s_n rfl rfl h164) (qc rfl rfl (s_n rfl rfl h164) (qc rfl rfl (s_n rfl rfl h164) (qc rfl rfl (s_n rfl rfl h164) (qc rfl rfl (s_n rfl rfl h164) (qc rfl rfl (s_n rfl rfl h164) (qc rfl rfl (s_n rfl rfl h164) (qc rfl rfl (s_n rfl rfl h164) (qc rfl rfl (s_u (o_pf rfl h164 rfl)) (qc rfl rfl (s_u (o_as rfl)) qn))))))))))))))))))) en ?_
              intro _
              refine ex_sub (E' := [(0, pt b0_ 0), (1, vS a1), (7, .slice none 0 0), (8, vI (i64 (r32 + r34))), (9, vI (i64 ((i64 ((i64 (r32 + r34)) + r36)) + r38))), (62, vB false)]) ⟨rfl, rfl, rfl, rfl, rfl, rfl, trivial⟩ ?_
              obtain rfl := Option.some.inj hm165
              exact x_sub K43 ⟨rfl, rfl, rfl, rfl, rfl, rfl, trivial⟩ (fun _ h => st_pk 6 [0, 5, 1, 2, 3, 4] (by decide) h)
  · refine cd_by (decide (64 < (a1.length : Int))) (fun h166 => ?_) fun h166 => ?_
    · have hm167 := ift hp8 h166
      clear hp8
      refine c_reg ?_
      refine r_u (o_mv rfl) ?_
      refine r_u (o_bin rfl rfl (bP_eqp Tryz.underlying141)) ?_
      refine r_u (o_mv rfl) ?_
      refine r_s (s_y rfl rfl rfl (o_mv rfl)) ?_
      refine r_s (s_y rfl rfl rfl (o_lenS Tryz.underlying9 rfl)) ?_
      refine r_s (s_y rfl rfl rfl (o_bin rfl rfl (bI_gt (a1.length : Int) 64))) ?_
      refine r_u (o_pf rfl rfl rfl) ?_
      refine r_u (o_mv rfl) ?_
      refine r_s (s_n rfl rfl h166) ?_
      refine r_s (s_n rfl rfl h166) ?_
      refine r_s (s_n rfl rfl h166) ?_
      refine r_u (o_pt rfl h166 rfl) ?_
      refine r_nil ?_
      obtain rfl := Option.some.inj hm167
      exact x_sub (K10 (⟨(pv1, g2)⟩ : arc_Arc.G)) ⟨rfl, rfl, rfl, trivial⟩ (fun _ h => st_pk 2 [0, 1] (by decide) h)
    · have hm167 := iff_ hp8 h166
      clear hp8
      refine c_reg ?_
      refine r_u (o_mv rfl) ?_
      refine r_u (o_bin rfl rfl (bP_eqp Tryz.underlying141)) ?_
      refine r_u (o_mv rfl) ?_
      refine r_s (s_y rfl rfl rfl (o_mv rfl)) ?_
      refine r_s (s_y rfl rfl rfl (o_lenS Tryz.underlying9 rfl)) ?_
      refine r_s (s_y rfl rfl rfl (o_bin rfl rfl (bI_gt (a1.length : Int) 64))) ?_
      refine r_u (o_pf rfl rfl rfl) ?_
      refine r_u (o_mv rfl) ?_
      refine r_s (s_y rfl rfl h166 (o_mv rfl)) ?_
      refine r_s (s_y rfl rfl h166 (o_mv rfl)) ?_
      obtain ⟨r168, hr168, hm173⟩ := bs hm167
      clear hm167
      refine r_sw (s_yw rfl rfl h166 (o_call ca120 rfl (arc_Arc_Touch.ok b0_ a0 (⟨(pv1, g2)⟩ : arc_Arc.G) a1 r168 hr168))) ?_
      rintro _ R _ _ ⟨⟨⟨pv171, g172⟩⟩, rfl, rfl, rfl⟩
      refine r_u (o_pf rfl h166 rfl) ?_
      refine r_nil ?_
      obtain rfl := Option.some.inj hm173
      exact x_sub (K10 (⟨(pv171, g172)⟩ : arc_Arc.G)) ⟨rfl, rfl, rfl, trivial⟩ (fun _ h => st_pk 2 [0, 1] (by decide) h)

def tiny_Tiny_Len (a0 : tiny_Tiny) : Option Int :=
  om a0.r (none) fun x6 => (ring_Rings_Len x6 0).bind fun r14 => (ring_Rings_Len x6 1).bind fun r16 => (ring_Rings_Len x6 2).bind fun r18 => some (i64 ((i64 (r14 + r16)) + r18))
theorem tiny_Tiny_Len.ok {G R F} (b0_ : Nat) (a0 : tiny_Tiny) (g0_ : tiny_Tiny.G) (r : Int) (hm : tiny_Tiny_Len a0 = some r) : CO Tryz.prog 158 [pt b0_ 0] G R (Bk b0_ 196 [vI a0.most, g0_.s.1, g0_.r.1] :: rO (sketch_Sketch.op g0_.s.2) g0_.s.1 a0.s :: rO (ring_Rings.op g0_.r.2) g0_.r.1 a0.r :: F)
    (Ret fun u R' L' => u = vI r ∧ R' = R ∧ L' = Bk b0_ 196 [vI a0.most, g0_.s.1, g0_.r.1] :: rO (sketch_Sketch.op g0_.s.2) g0_.s.1 a0.s :: rO (ring_Rings.op g0_.r.2) g0_.r.1 a0.r :: F) := by
  obtain ⟨⟨pv1, g2⟩, ⟨pv4, g5⟩⟩ := g0_
  unfold tiny_Tiny_Len at hm
  refine co_ofN (N := 22) Tryz.func158 rfl rfl ?_
  refine c_seq ?_
  refine c_reg ?_
  refine r_u (o_as rfl) ?_
  refine r_nil ?_
  refine x_seq ?_
  refine c_seq ?_
  refine c_seq ?_
  refine c_reg ?_
  refine r_u (o_mv rfl) ?_
  refine r_u (o_bin rfl rfl (bP_eqp Tryz.underlying142)) ?_
  refine r_nil ?_
  refine x_seq ?_
  refine c_ff rfl ?_
  refine c_skip ?_
  refine x_seq ?_
  refine c_seq ?_
  refine cd_st (fun _ h => mv2 h) ?_
  refine cd_opt (fun ho8 => ?_) (fun x6 b7 ho8 => ?_)
  · rintro rfl
    have hm9 := om_n hm ho8
    clear hm
    cases hm9
  · rintro rfl
    have hm9 := om_s hm ho8
    clear hm
    refine cd_st (fun _ h => st_star_o h) ?_
    obtain ⟨r14, hr14, hm15⟩ := bs hm9
    clear hm9
    obtain ⟨r16, hr16, hm17⟩ := bs hm15
    clear hm15
    obtain ⟨r18, hr18, hm19⟩ := bs hm17
    clear hm17
    refine c_any mixed (effs := []) (V := []) ?_
    refine stage_ext [(0, pt b0_ 0), (1, pt b0_ 0), (2, pt b0_ 2), (3, pt b7 0), (4, vI r14), (5, pt b0_ 0), (6, pt b0_ 0), (7, pt b0_ 2), (8, pt b7 0), (9, vI r16), (10, vI (i64 (r14 + r16))), (11, pt b0_ 0), (12, pt b0_ 0), (13, pt b0_ 2), (14, pt b7 0), (15, vI r18), (16, vI (i64 ((i64 (r14 + r16)) + r18))), (17, vI (i64 ((i64 (r14 + r16)) + r18)))] rfl ?_
    refine stage rfl rfl rfl rfl [0, 1, 3, 7, 15, 0, 32, 96, 224, 511, 1023, 0, 2048, 6144, 14336, 31743, 65535, 131071] [0, 1, 2, 3, 4, 5, 6, 7, 8, 9, 10, 11, 12, 13, 14, 15, 16, 17] [] rfl rfl rfl (qc rfl rfl (s_u (o_mv rfl)) (qc rfl rfl (s_u (o_nc rfl)) (qc rfl rfl (s_u (o_fa fa196_2 rfl)) (qc rfl rfl (s_u (o_ld 5 sc191 rfl rfl rfl)) (qc rfl rfl (s_u (o_callqP ca164 rfl (ring_Rings_Len.ok b7 x6 g5 0 r14 hr14) (fun _ h => st_pk 7 [0, 1, 2, 3, 4, 5, 6] (by decide) h) (fun _ h => st_pk 7 [0, 1, 2, 3, 4, 5, 6] (by decide) h))) (qc rfl rfl (s_u (o_mv rfl)) (qc rfl rfl (s_u (o_nc rfl)) (qc rfl rfl (s_u (o_fa fa196_2 rfl)) (qc rfl rfl (s_u (o_ld 5 sc191 rfl rfl rfl)) (qc rfl rfl (s_u (o_callqP ca164 rfl (ring_Rings_Len.ok b7 x6 g5 1 r16 hr16) (fun _ h => st_pk 7 [0, 1, 2, 3, 4, 5, 6] (by decide) h) (fun _ h => st_pk 7 [0, 1, 2, 3, 4, 5, 6] (by decide) h))) (qc rfl rfl (s_u (o_bin rfl rfl (bI_add r14 r16))) (qc rfl rfl (s_u (o_mv rfl)) (qc rfl rfl (s_u (o_nc rfl)) (qc rfl rfl (s_u (o_fa fa196_2 rfl)) (qc rfl rfl (s_u (o_ld 5 sc191 rfl rfl rfl)) (qc rfl rfl (s_u (o_callqP ca164 rfl (ring_Rings_Len.ok b7 x6 g5 2 r18 hr18) (fun _ h => st_pk 7 [0, 1, 2, 3, 4, 5, 6] (by decide) h) (fun _ h => st_pk 7 [0, 1, 2, 3, 4, 5, 6] (by decide) h))) (qc rfl rfl (s_u (o_bin rfl rfl (bI_add (i64 (r14 + r16)) r18))) (qc rfl rfl (s_u (o_as rfl)) qn)))))))))))))))))) en ?_
    intro _
    refine ex_sub (E' := [(2, vI (i64 ((i64 (r14 + r16)) + r18)))]) ⟨rfl, trivial⟩ ?_
    refine x_seq ?_
    refine c_ret ?_
    refine ex_st (fun _ h => st_some (f := ring_Rings.op g5) (a := x6) (st_star_f (A := ring_Rings.fl b7 x6 g5) h)) ?_
    refine ex_st (fun _ h => st_back ho8 h) ?_
    obtain rfl := Option.some.inj hm19
    refine ex_st (fun _ h => st_pk 3 [1, 2, 0] (by decide) h) ?_
    exact x_r1 rfl (rv_t rfl) (Le.refl _) ⟨_, rfl, rfl, rfl, rfl⟩

def tiny_Tiny_last (a0 : tiny_Tiny) : Option (Str × Bool) :=
  om a0.r (none) fun x6 => (ring_Rings_Back x6 1).bind fun r14 => if r14.2 then some (r14.1, true) else (ring_Rings_Back x6 2).bind fun r18 => some (r18.1, r18.2)
theorem tiny_Tiny_last.ok {G R F} (b0_ : Nat) (a0 : tiny_Tiny) (g0_ : tiny_Tiny.G) (r : Str × Bool) (hm : tiny_Tiny_last a0 = some r) : CO Tryz.prog 215 [pt b0_ 0] G R (Bk b0_ 196 [vI a0.most, g0_.s.1, g0_.r.1] :: rO (sketch_Sketch.op g0_.s.2) g0_.s.1 a0.s :: rO (ring_Rings.op g0_.r.2) g0_.r.1 a0.r :: F)
    (Ret fun u R' L' => u = .tuple #[vS r.1, vB r.2] ∧ R' = R ∧ L' = Bk b0_ 196 [vI a0.most, g0_.s.1, g0_.r.1] :: rO (sketch_Sketch.op g0_.s.2) g0_.s.1 a0.s :: rO (ring_Rings.op g0_.r.2) g0_.r.1 a0.r :: F) := by
  obtain ⟨⟨pv1, g2⟩, ⟨pv4, g5⟩⟩ := g0_
  unfold tiny_Tiny_last at hm
  refine co_ofN (N := 23) Tryz.func215 rfl rfl ?_
  refine c_seq ?_
  refine c_reg ?_
  refine r_u (o_as rfl) ?_
  refine r_u (o_as rfl) ?_
  refine r_nil ?_
  refine x_seq ?_
  refine c_seq ?_
  refine c_seq ?_
  refine cd_st (fun _ h => mv2 h) ?_
  refine cd_opt (fun ho8 => ?_) (fun x6 b7 ho8 => ?_)
  · rintro rfl
    have hm9 := om_n hm ho8
    clear hm
    cases hm9
  · rintro rfl
    have hm9 := om_s hm ho8
    clear hm
    refine cd_st (fun _ h => st_star_o h) ?_
    refine c_reg ?_
    refine r_u (o_mv rfl) ?_
    refine r_u (o_nc rfl) ?_
    refine r_u (o_fa fa196_2 rfl) ?_
    refine r_u (o_ld 5 sc191 rfl rfl rfl) ?_
    obtain ⟨r14, hr14, hm15⟩ := bs hm9
    clear hm9
    refine r_c (s_w (o_call ca166 rfl (ring_Rings_Back.ok b7 x6 g5 1 r14 hr14))) ?_
    refine r_u (o_mv rfl) ?_
    refine r_u (o_ext rfl rfl) ?_
    refine r_u (o_ext rfl rfl) ?_
    refine r_u (o_as rfl) ?_
    refine r_u (o_as rfl) ?_
    refine r_nil ?_
    refine x_seq ?_
    refine c_seq ?_
    refine c_reg ?_
    refine r_u (o_mv rfl) ?_
    refine r_nil ?_
    refine x_seq ?_
    refine c_if (b := r14.2) rfl (fun h16 => ?_) fun h16 => ?_
    · have hm17 := ift hm15 h16
      clear hm15
      refine c_seq ?_
      refine c_reg ?_
      refine r_u (o_mv rfl) ?_
      refine r_u (o_as rfl) ?_
      refine r_u (o_as rfl) ?_
      refine r_nil ?_
      refine x_seq ?_
      refine c_ret ?_
      refine ex_st (fun _ h => st_some (f := ring_Rings.op g5) (a := x6) (st_star_f (A := ring_Rings.fl b7 x6 g5) h)) ?_
      refine ex_st (fun _ h => st_back ho8 h) ?_
      obtain rfl := Option.some.inj hm17
      refine ex_st (fun _ h => st_pk 3 [1, 2, 0] (by decide) h) ?_
      exact x_r2 rfl (rv_t rfl) (rv_t rfl) (Le.refl _) ⟨_, rfl, rfl, rfl, rfl⟩
    · have hm17 := iff_ hm15 h16
      clear hm15
      refine c_skip ?_
      refine x_seq ?_
      refine c_seq ?_
      refine c_reg ?_
      refine r_u (o_mv rfl) ?_
      refine r_u (o_nc rfl) ?_
      refine r_u (o_fa fa196_2 rfl) ?_
      refine r_u (o_ld 5 sc191 rfl rfl rfl) ?_
      obtain ⟨r18, hr18, hm19⟩ := bs hm17
      clear hm17
      refine r_c (s_w (o_call ca166 rfl (ring_Rings_Back.ok b7 x6 g5 2 r18 hr18))) ?_
      refine r_u (o_ext rfl rfl) ?_
      refine r_u (o_ext rfl rfl) ?_
      refine r_u (o_as rfl) ?_
      refine r_u (o_as rfl) ?_
      refine r_nil ?_
      refine x_seq ?_
      refine c_ret ?_
      refine ex_st (fun _ h => st_some (f := ring_Rings.op g5) (a := x6) (st_star_f (A := ring_Rings.fl b7 x6 g5) h)) ?_
      refine ex_st (fun _ h => st_back ho8 h) ?_
      obtain rfl := Option.some.inj hm19
      refine ex_st (fun _ h => st_pk 3 [1, 2, 0] (by decide) h) ?_
      exact x_r2 rfl (rv_t rfl) (rv_t rfl) (Le.refl _) ⟨_, rfl, rfl, rfl, rfl⟩

def sketch_Sketch_Seen (a0 : sketch_Sketch) (a1 : Str) : Option Int :=
  (sketch_Sketch_least a0 a1).bind fun r2 => (sketch_Sketch_place a0 a1 4).bind fun r4 => (gi a0.door r4).bind fun x6 => if x6 then some (i64 ((r2.toNat : Int) + 1)) else some (r2.toNat : Int)
theorem sketch_Sketch_Seen.ok {G R F} (b0_ : Nat) (a0 : sketch_Sketch) (g0_ : sketch_Sketch.G) (a1 : Str) (r : Int) (hm : sketch_Sketch_Seen a0 a1 = some r) : CO Tryz.prog 216 [pt b0_ 0, vS a1] G R (Bk b0_ 250 [vI a0.wide, vW a0.seed, g0_.rows.1, g0_.rows.2.1, g0_.rows.2.2.1, g0_.rows.2.2.2, g0_.door, vI a0.added] :: OwL (OwS false 5 1 eY) [g0_.rows.1, g0_.rows.2.1, g0_.rows.2.2.1, g0_.rows.2.2.2] a0.rows :: OwS true 4 1 eB g0_.door a0.door :: F)
    (Ret fun u R' L' => u = vI r ∧ R' = R ∧ L' = Bk b0_ 250 [vI a0.wide, vW a0.seed, g0_.rows.1, g0_.rows.2.1, g0_.rows.2.2.1, g0_.rows.2.2.2, g0_.door, vI a0.added] :: OwL (OwS false 5 1 eY) [g0_.rows.1, g0_.rows.2.1, g0_.rows.2.2.1, g0_.rows.2.2.2] a0.rows :: OwS true 4 1 eB g0_.door a0.door :: F) := by
  unfold sketch_Sketch_Seen at hm
  refine co_ofN (N := 24) Tryz.func216 rfl rfl ?_
  refine c_seq ?_
  refine c_reg ?_
  refine r_u (o_as rfl) ?_
  refine r_nil ?_
  refine x_seq ?_
  refine c_seq ?_
  refine c_seq ?_
  refine c_reg ?_
  refine r_u (o_mv rfl) ?_
  refine r_u (o_bin rfl rfl (bP_eqp Tryz.underlying194)) ?_
  refine r_nil ?_
  refine x_seq ?_
  refine c_ff rfl ?_
  refine c_skip ?_
  refine x_seq ?_
  refine c_seq ?_
  refine c_reg ?_
  refine r_u (o_mv rfl) ?_
  refine r_u (o_mv rfl) ?_
  obtain ⟨r2, hr2, hm3⟩ := bs hm
  clear hm
  refine r_c (s_w (o_call ca208 rfl (sketch_Sketch_least.ok b0_ a0 g0_ a1 r2 hr2))) ?_
  refine r_u (o_cv rfl (cYI Tryz.underlying5 Tryz.underlying3 r2)) ?_
  refine r_u (o_as rfl) ?_
  refine r_nil ?_
  refine x_seq ?_
  refine c_seq ?_
  refine c_seq ?_
  obtain ⟨r4, hr4, hm5⟩ := bs hm3
  clear hm3
  obtain ⟨x6, hx6, hm7⟩ := bs hm5
  clear hm5
  refine c_any mixed (effs := []) (V := []) ?_
  refine stage_ext [(0, pt b0_ 0), (1, pt b0_ 0), (2, pt b0_ 6), (3, g0_.door), (4, pt b0_ 0), (5, vS a1), (6, vI r4), (7, pt (sb g0_.door) (so g0_.door + r4.toNat * 1)), (8, vB x6)] rfl ?_
  refine stage rfl rfl rfl rfl [0, 1, 3, 7, 0, 0, 48, 127, 255] [0, 1, 2, 3, 4, 5, 6, 7, 8] [] rfl rfl rfl (qc rfl rfl (s_u (o_mv rfl)) (qc rfl rfl (s_u (o_nc rfl)) (qc rfl rfl (s_u (o_fa fa250_3 rfl)) (qc rfl rfl (s_u (o_ld 0 sc68 rfl rfl rfl)) (qc rfl rfl (s_u (o_mv rfl)) (qc rfl rfl (s_u (o_mv rfl)) (qc rfl rfl (s_u (o_callqP ca207 rfl (sketch_Sketch_place.ok b0_ a0 g0_ a1 4 r4 hr4) (fun _ h => st_pk 3 [0, 1, 2] (by decide) h) (fun _ h => st_pk 3 [0, 1, 2] (by decide) h))) (qc rfl rfl (s_u (o_ixO 2 Tryz.underlying68 (fun _ => by kernel_rfl) rfl rfl rfl hx6)) (qc rfl rfl (s_u (o_ldO0 2 sc4 rfl rfl hx6 rfl rfl)) qn))))))))) en ?_
  intro _
  refine ex_sub (E' := [(5, vI (r2.toNat : Int)), (20, vB x6)]) ⟨rfl, rfl, trivial⟩ ?_
  refine x_seq ?_
  refine c_if (b := x6) rfl (fun h8 => ?_) fun h8 => ?_
  · have hm9 := ift hm7 h8
    clear hm7
    refine c_reg ?_
    refine r_u (o_mv rfl) ?_
    refine r_u (o_bin rfl rfl (bI_add (r2.toNat : Int) 1)) ?_
    refine r_u (o_as rfl) ?_
    refine r_nil ?_
    refine x_seq ?_
    refine c_seq ?_
    refine c_reg ?_
    refine r_u (o_mv rfl) ?_
    refine r_u (o_as rfl) ?_
    refine r_nil ?_
    refine x_seq ?_
    refine c_ret ?_
    obtain rfl := Option.some.inj hm9
    exact x_r1 rfl (rv_t rfl) (Le.refl _) ⟨_, rfl, rfl, rfl, rfl⟩
  · have hm9 := iff_ hm7 h8
    clear hm7
    refine c_skip ?_
    refine x_seq ?_
    refine c_seq ?_
    refine c_reg ?_
    refine r_u (o_mv rfl) ?_
    refine r_u (o_as rfl) ?_
    refine r_nil ?_
    refine x_seq ?_
    refine c_ret ?_
    obtain rfl := Option.some.inj hm9
    exact x_r1 rfl (rv_t rfl) (Le.refl _) ⟨_, rfl, rfl, rfl, rfl⟩

def tiny_Tiny_Insert (a0 : tiny_Tiny) (a1 : Str) : Option (List Str × tiny_Tiny) :=
  Option.bind (if decide (64 < (a1.length : Int)) then some (true, a0) else (tiny_Tiny_Touch a0 a1).bind fun r98 => some (r98.1, r98.2)) fun p6 => if p6.1 then some ([], p6.2) else om p6.2.s (none) fun x19 => (sketch_Sketch_Add x19 a1).bind fun r25 => om p6.2.r (none) fun x27 => (ring_Rings_Front x27 0 a1).bind fun r35 => (ring_Rings_Len r35.2 0).bind fun r42 => if decide (r42 ≤ ((tiny_Parts p6.2.most).Window)) then some ([], (⟨p6.2.most, (some r25), (some r35.2)⟩ : tiny_Tiny)) else (ring_Rings_Back r35.2 0).bind fun r46 => (tiny_Tiny_Len (⟨p6.2.most, (some r25), (some r35.2)⟩ : tiny_Tiny)).bind fun r48 => if decide (r48 ≤ p6.2.most) then (ring_Rings_Front r35.2 1 r46.1).bind fun r52 => some ([], (⟨p6.2.most, (some r25), (some r52.2)⟩ : tiny_Tiny)) else (tiny_Tiny_last (⟨p6.2.most, (some r25), (some r35.2)⟩ : tiny_Tiny)).bind fun r59 => Option.bind (if r59.2 then (sketch_Sketch_Seen r25 r46.1).bind fun r92 => (sketch_Sketch_Seen r25 r59.1).bind fun r94 => some (decide (r94 < r92)) else some false) fun p61 => if p61 then (ring_Rings_Drop r35.2 r59.1).bind fun r67 => (ring_Rings_Front r67.2 1 r46.1).bind fun r74 => some ([r59.1], (⟨p6.2.most, (some r25), (some r74.2)⟩ : tiny_Tiny)) else (ring_Rings_Drop r35.2 r46.1).bind fun r82 => some ([r46.1], (⟨p6.2.most, (some r25), (some r82.2)⟩ : tiny_Tiny))
theorem tiny_Tiny_Insert.ok {G R F} (b0_ : Nat) (a0 : tiny_Tiny) (g0_ : tiny_Tiny.G) (a1 : Str) (r : List Str × tiny_Tiny) (hm : tiny_Tiny_Insert a0 a1 = some r) : CO Tryz.prog 168 [pt b0_ 0, vS a1] G R (Bk b0_ 196 [vI a0.most, g0_.s.1, g0_.r.1] :: rO (sketch_Sketch.op g0_.s.2) g0_.s.1 a0.s :: rO (ring_Rings.op g0_.r.2) g0_.r.1 a0.r :: F)
    (Ret fun u R' L' => ∃ (p0 : Value) (q0 : tiny_Tiny.G), u = p0 ∧ R' = R ∧ L' = OwS true 9 1 eS p0 r.1 :: Bk b0_ 196 [vI r.2.most, q0.s.1, q0.r.1] :: rO (sketch_Sketch.op q0.s.2) q0.s.1 r.2.s :: rO (ring_Rings.op q0.r.2) q0.r.1 r.2.r :: F) := by
  obtain ⟨⟨pv1, g2⟩, ⟨pv4, g5⟩⟩ := g0_
  unfold tiny_Tiny_Insert at hm
  refine co_ofN (N := 109) Tryz.func168 rfl rfl ?_
  refine c_seq ?_
  refine c_reg ?_
  refine r_u (o_as rfl) ?_
  refine r_nil ?_
  refine x_seq ?_
  refine c_seq ?_
  refine c_seq ?_
  obtain ⟨p6, hp14, hm15⟩ := bs hm
  refine cd_cut (fun x ks => ∀ (g7 : tiny_Tiny.G), EX x .normal ks [(0, pt b0_ 0), (1, vS a1), (20, vB p6.1)] R (Bk b0_ 196 [vI p6.2.most, g7.s.1, g7.r.1] :: rO (sketch_Sketch.op g7.s.2) g7.s.1 p6.2.s :: rO (ring_Rings.op g7.r.2) g7.r.1 p6.2.r :: F)) ?_ fun K16 => ?_
  · intro g7
    obtain ⟨⟨pv9, g10⟩, ⟨pv12, g13⟩⟩ := g7
    refine x_seq ?_
    refine c_if (b := p6.1) rfl (fun h17 => ?_) fun h17 => ?_
    · have hm18 := ift hm15 h17
      clear hm15
      refine c_seq ?_
      refine c_reg ?_
      refine r_u (o_as rfl) ?_
      refine r_nil ?_
      refine x_seq ?_
      refine c_ret ?_
      refine ex_st (fun _ h => st_nil (ap := true) (T := 9) (sz := 1) (en := eS) h) ?_
      obtain rfl := Option.some.inj hm18
      exact x_r1 rfl (rv_t rfl) (Le.refl _) ⟨_, rfl, (.slice none 0 0), (⟨(pv9, g10), (pv12, g13)⟩ : tiny_Tiny.G), rfl, rfl, rfl⟩
    · have hm18 := iff_ hm15 h17
      clear hm15
      refine c_skip ?_
      refine x_seq ?_
      refine c_seq ?_
      refine cd_st (fun _ h => mv1 h) ?_
      refine cd_opt (fun ho21 => ?_) (fun x19 b20 ho21 => ?_)
      · rintro rfl
        have hm22 := om_n hm18 ho21
        clear hm18
        cases hm22
      · rintro rfl
        have hm22 := om_s hm18 ho21
        clear hm18
        refine cd_st (fun _ h => st_star_o h) ?_
        refine c_reg ?_
        refine r_u (o_mv rfl) ?_
        refine r_u (o_nc rfl) ?_
        refine r_u (o_fa fa196_1 rfl) ?_
        refine r_u (o_ld 3 sc194 rfl rfl rfl) ?_
        refine r_u (o_mv rfl) ?_
        obtain ⟨r25, hr25, hm26⟩ := bs hm22
        clear hm22
        refine r_c (s_w (o_call ca162 rfl (sketch_Sketch_Add.ok b20 x19 g10 a1 r25 hr25))) ?_
        refine r_nil ?_
        refine x_seq ?_
        refine c_seq ?_
        refine cd_st (fun _ h => mv4 h) ?_
        refine cd_opt (fun ho29 => ?_) (fun x27 b28 ho29 => ?_)
        · rintro rfl
          have hm30 := om_n hm26 ho29
          clear hm26
          cases hm30
        · rintro rfl
          have hm30 := om_s hm26 ho29
          clear hm26
          refine cd_st (fun _ h => st_star_o h) ?_
          refine c_reg ?_
          refine r_u (o_mv rfl) ?_
          refine r_u (o_nc rfl) ?_
          refine r_u (o_fa fa196_2 rfl) ?_
          refine r_u (o_ld 8 sc191 rfl rfl rfl) ?_
          refine r_u (o_mv rfl) ?_
          obtain ⟨r35, hr35, hm41⟩ := bs hm30
          clear hm30
          refine r_sw (s_w (o_call ca163 rfl (ring_Rings_Front.ok b28 x27 g13 0 a1 r35 hr35))) ?_
          rintro _ R _ _ ⟨g36, rfl, rfl, rfl⟩
          refine r_nil ?_
          refine x_seq ?_
          refine c_seq ?_
          refine c_seq ?_
          obtain ⟨r42, hr42, hm43⟩ := bs hm41
          clear hm41
          refine c_any mixed (effs := []) (V := []) ?_
          refine stage_ext [(0, pt b0_ 0), (1, pt b0_ 0), (2, pt b0_ 2), (3, pt b28 0), (4, vI r42), (5, pt b0_ 0), (6, pt b0_ 0), (7, pt b0_ 0), (8, vI p6.2.most), (9, .agg (api_Parts.c (tiny_Parts p6.2.most)).toArray), (10, vI ((tiny_Parts p6.2.most).Window)), (11, vB (decide (r42 ≤ ((tiny_Parts p6.2.most).Window))))] rfl ?_
          refine stage rfl rfl rfl rfl [0, 1, 3, 7, 15, 0, 32, 96, 224, 511, 1023, 2047] [0, 1, 2, 3, 4, 5, 6, 7, 8, 9, 10, 11] [] rfl rfl rfl (qc rfl rfl (s_u (o_mv rfl)) (qc rfl rfl (s_u (o_nc rfl)) (qc rfl rfl (s_u (o_fa fa196_2 rfl)) (qc rfl rfl (s_u (o_ld 8 sc191 rfl rfl rfl)) (qc rfl rfl (s_u (o_callqP ca164 rfl (ring_Rings_Len.ok b28 r35.2 g36 0 r42 hr42) (fun _ h => st_pk 9 [0, 1, 2, 3, 4, 5, 6, 7, 8] (by decide) h) (fun _ h => st_pk 9 [0, 1, 2, 3, 4, 5, 6, 7, 8] (by decide) h))) (qc rfl rfl (s_u (o_mv rfl)) (qc rfl rfl (s_u (o_nc rfl)) (qc rfl rfl (s_u (o_fa fa196_0 rfl)) (qc rfl rfl (s_u (o_ld 8 sc3 rfl rfl rfl)) (qc rfl rfl (s_u (o_callq ca165 rfl (tiny_Parts.ok p6.2.most _ rfl))) (qc rfl rfl (s_u (o_fd (v := vI ((tiny_Parts p6.2.most).Window)) rfl (fun _ => by kernel_rfl))) (qc rfl rfl (s_u (o_bin rfl rfl (bI_le r42 ((tiny_Parts p6.2.most).Window)))) qn)))))))))))) en ?_
          intro _
          refine ex_sub (E' := [(0, pt b0_ 0), (44, vB (decide (r42 ≤ ((tiny_Parts p6.2.most).Window))))]) ⟨rfl, rfl, trivial⟩ ?_
          refine x_seq ?_
          refine c_if (b := decide (r42 ≤ ((tiny_Parts p6.2.most).Window))) rfl (fun h44 => ?_) fun h44 => ?_
          · have hm45 := ift hm43 h44
            clear hm43
            refine c_seq ?_
            refine c_reg ?_
            refine r_u (o_as rfl) ?_
            refine r_nil ?_
            refine x_seq ?_
            refine c_ret ?_
            refine ex_st (fun _ h => st_nil (ap := true) (T := 9) (sz := 1) (en := eS) h) ?_
            refine ex_st (fun _ h => mv8 (mv8 (mv8 h))) ?_
            refine ex_st (fun _ h => st_some (f := sketch_Sketch.op g10) (a := r25) (st_star_f (A := sketch_Sketch.fl b20 r25 g10) h)) ?_
            refine ex_st (fun _ h => mv6 (mv6 (mv6 (mv6 (mv6 h))))) ?_
            refine ex_st (fun _ h => st_some (f := ring_Rings.op g36) (a := r35.2) (st_star_f (A := ring_Rings.fl b28 r35.2 g36) h)) ?_
            obtain rfl := Option.some.inj hm45
            refine ex_st (fun _ h => st_pk 4 [2, 3, 1, 0] (by decide) h) ?_
            exact x_r1 rfl (rv_t rfl) (Le.refl _) ⟨_, rfl, (.slice none 0 0), (⟨(pt b20 0, g10), (pt b28 0, g36)⟩ : tiny_Tiny.G), rfl, rfl, rfl⟩
          · have hm45 := iff_ hm43 h44
            clear hm43
            refine c_skip ?_
            refine x_seq ?_
            refine c_seq ?_
            refine c_reg ?_
            refine r_u (o_mv rfl) ?_
            refine r_u (o_nc rfl) ?_
            refine r_u (o_fa fa196_2 rfl) ?_
            refine r_u (o_ld 8 sc191 rfl rfl rfl) ?_
            obtain ⟨r46, hr46, hm47⟩ := bs hm45
            clear hm45
            refine r_c (s_w (o_call ca166 rfl (ring_Rings_Back.ok b28 r35.2 g36 0 r46 hr46))) ?_
            refine r_u (o_mv rfl) ?_
            refine r_u (o_ext rfl rfl) ?_
            refine r_u (o_ext rfl rfl) ?_
            refine r_u (o_as rfl) ?_
            refine r_u (o_as rfl) ?_
            refine r_nil ?_
            refine x_seq ?_
            refine c_seq ?_
            refine c_seq ?_
            refine cd_st (fun _ h => mv7 (mv7 (mv7 h))) ?_
            refine cd_st (fun _ h => st_some (f := sketch_Sketch.op g10) (a := r25) (st_star_f (A := sketch_Sketch.fl b20 r25 g10) h)) ?_
            refine cd_st (fun _ h => mv5 (mv5 (mv5 (mv5 (mv5 h))))) ?_
            refine cd_st (fun _ h => st_some (f := ring_Rings.op g36) (a := r35.2) (st_star_f (A := ring_Rings.fl b28 r35.2 g36) h)) ?_
            obtain ⟨r48, hr48, hm49⟩ := bs hm47
            clear hm47
            refine c_any mixed (effs := []) (V := []) ?_
            refine stage_ext [(0, pt b0_ 0), (1, vI r48), (2, pt b0_ 0), (3, pt b0_ 0), (4, pt b0_ 0), (5, vI p6.2.most), (6, vB (decide (r48 ≤ p6.2.most)))] rfl ?_
            refine stage rfl rfl rfl rfl [0, 1, 0, 4, 12, 28, 63] [0, 1, 2, 3, 4, 5, 6] [] rfl rfl rfl (qc rfl rfl (s_u (o_mv rfl)) (qc rfl rfl (s_u (o_callqP ca158 rfl (tiny_Tiny_Len.ok b0_ (⟨p6.2.most, (some r25), (some r35.2)⟩ : tiny_Tiny) (⟨(pt b20 0, g10), (pt b28 0, g36)⟩ : tiny_Tiny.G) r48 hr48) (fun _ h => st_pk 3 [2, 1, 0] (by decide) h) (fun _ h => st_pk 3 [2, 1, 0] (by decide) h))) (qc rfl rfl (s_u (o_mv rfl)) (qc rfl rfl (s_u (o_nc rfl)) (qc rfl rfl (s_u (o_fa fa196_0 rfl)) (qc rfl rfl (s_u (o_ld 2 sc3 rfl rfl rfl)) (qc rfl rfl (s_u (o_bin rfl rfl (bI_le r48 p6.2.most))) qn))))))) en ?_
            intro _
            refine ex_sub (E' := [(0, pt b0_ 0), (5, vS r46.1), (59, vB (decide (r48 ≤ p6.2.most)))]) ⟨rfl, rfl, rfl, trivial⟩ ?_
            refine x_seq ?_
            refine c_if (b := decide (r48 ≤ p6.2.most)) rfl (fun h50 => ?_) fun h50 => ?_
            · have hm51 := ift hm49 h50
              clear hm49
              refine c_seq ?_
              refine c_reg ?_
              refine r_u (o_mv rfl) ?_
              refine r_u (o_nc rfl) ?_
              refine r_u (o_fa fa196_2 rfl) ?_
              refine r_u (o_ld 2 sc191 rfl rfl rfl) ?_
              refine r_u (o_mv rfl) ?_
              refine rl_st (fun _ h => st_some_o h) ?_
              refine rl_st (fun _ h => st_star_o h) ?_
              obtain ⟨r52, hr52, hm58⟩ := bs hm51
              clear hm51
              refine r_sw (s_w (o_call ca163 rfl (ring_Rings_Front.ok b28 r35.2 g36 1 r46.1 r52 hr52))) ?_
              rintro _ R _ _ ⟨g53, rfl, rfl, rfl⟩
              refine r_nil ?_
              refine x_seq ?_
              refine c_seq ?_
              refine c_reg ?_
              refine r_u (o_as rfl) ?_
              refine r_nil ?_
              refine x_seq ?_
              refine c_ret ?_
              refine ex_st (fun _ h => st_nil (ap := true) (T := 9) (sz := 1) (en := eS) h) ?_
              refine ex_st (fun _ h => mv5 (mv5 (mv5 (mv5 (mv5 h))))) ?_
              refine ex_st (fun _ h => st_some (f := ring_Rings.op g53) (a := r52.2) (st_star_f (A := ring_Rings.fl b28 r52.2 g53) h)) ?_
              obtain rfl := Option.some.inj hm58
              refine ex_st (fun _ h => st_pk 4 [1, 3, 2, 0] (by decide) h) ?_
              exact x_r1 rfl (rv_t rfl) (Le.refl _) ⟨_, rfl, (.slice none 0 0), (⟨(pt b20 0, g10), (pt b28 0, g53)⟩ : tiny_Tiny.G), rfl, rfl, rfl⟩
            · have hm51 := iff_ hm49 h50
              clear hm49
              refine c_skip ?_
              refine x_seq ?_
              refine c_seq ?_
              refine c_reg ?_
              refine r_u (o_mv rfl) ?_
              obtain ⟨r59, hr59, hm60⟩ := bs hm51
              clear hm51
              refine rl_st (fun _ h => mv2 (mv1 h)) ?_
              refine r_c (s_w (o_call ca215 rfl (tiny_Tiny_last.ok b0_ (⟨p6.2.most, (some r25), (some r35.2)⟩ : tiny_Tiny) (⟨(pt b20 0, g10), (pt b28 0, g36)⟩ : tiny_Tiny.G) r59 hr59))) ?_
              refine r_u (o_mv rfl) ?_
              refine r_u (o_ext rfl rfl) ?_
              refine r_u (o_ext rfl rfl) ?_
              refine r_u (o_as rfl) ?_
              refine r_u (o_as rfl) ?_
              refine r_nil ?_
              refine x_seq ?_
              refine c_seq ?_
              refine c_seq ?_
              refine cd_st (fun _ h => mv1 h) ?_
              refine cd_st (fun _ h => st_some_o h) ?_
              refine cd_st (fun _ h => st_star_o h) ?_
              obtain ⟨p61, hp62, hm63⟩ := bs hm60
              refine cd_join (E' := [(0, pt b0_ 0), (5, vS r46.1), (7, vS r59.1), (86, vB p61)]) (L' := Bk b20 250 [vI r25.wide, vW r25.seed, g10.rows.1, g10.rows.2.1, g10.rows.2.2.1, g10.rows.2.2.2, g10.door, vI r25.added] :: Bk b0_ 196 [vI p6.2.most, pt b20 0, pt b28 0] :: OwL (OwS false 5 1 eY) [g10.rows.1, g10.rows.2.1, g10.rows.2.2.1, g10.rows.2.2.2] r25.rows :: OwS true 4 1 eB g10.door r25.door :: rO (ring_Rings.op g36) (pt b28 0) (some r35.2) :: F) ?_ fun K64 => ?_
              · refine x_seq ?_
                refine c_if (b := p61) rfl (fun h65 => ?_) fun h65 => ?_
                · have hm66 := ift hm63 h65
                  clear hm63
                  refine c_seq ?_
                  refine c_reg ?_
                  refine r_u (o_mv rfl) ?_
                  refine r_u (o_nc rfl) ?_
                  refine r_u (o_fa fa196_2 rfl) ?_
                  refine r_u (o_ld 1 sc191 rfl rfl rfl) ?_
                  refine r_u (o_mv rfl) ?_
                  refine rl_st (fun _ h => mv4 h) ?_
                  refine rl_st (fun _ h => st_some_o h) ?_
                  refine rl_st (fun _ h => st_star_o h) ?_
                  obtain ⟨r67, hr67, hm73⟩ := bs hm66
                  clear hm66
                  refine r_sw (s_w (o_call ca117 rfl (ring_Rings_Drop.ok b28 r35.2 g36 r59.1 r67 hr67))) ?_
                  rintro _ R _ _ ⟨g68, rfl, rfl, rfl⟩
                  refine r_nil ?_
                  refine x_seq ?_
                  refine c_seq ?_
                  refine c_reg ?_
                  refine r_u (o_mv rfl) ?_
                  refine r_u (o_nc rfl) ?_
                  refine r_u (o_fa fa196_2 rfl) ?_
                  refine r_u (o_ld 6 sc191 rfl rfl rfl) ?_
                  refine r_u (o_mv rfl) ?_
                  obtain ⟨r74, hr74, hm80⟩ := bs hm73
                  clear hm73
                  refine r_sw (s_w (o_call ca163 rfl (ring_Rings_Front.ok b28 r67.2 g68 1 r46.1 r74 hr74))) ?_
                  rintro _ R _ _ ⟨g75, rfl, rfl, rfl⟩
                  refine r_nil ?_
                  refine x_seq ?_
                  refine c_seq ?_
                  refine c_reg ?_
                  refine r_u (o_mv rfl) ?_
                  refine r_sw (s_w (o_bsl (en := eS) (sz := 1) (e := 9) (cs := [vS r59.1]) (r := [r59.1]) rfl (fun _ => by kernel_rfl) rfl (by decide) rfl (fun _ => rfl))) ?_
                  rintro v81 R _ _ ⟨rfl, rfl⟩
                  refine r_u (o_as rfl) ?_
                  refine r_nil ?_
                  refine x_seq ?_
                  refine c_ret ?_
                  refine ex_st (fun _ h => mv8 (mv9 (mv9 h))) ?_
                  refine ex_st (fun _ h => st_some (f := sketch_Sketch.op g10) (a := r25) (st_star_f (A := sketch_Sketch.fl b20 r25 g10) h)) ?_
                  refine ex_st (fun _ h => mv6 (mv6 (mv6 (mv6 (mv6 h))))) ?_
                  refine ex_st (fun _ h => st_some (f := ring_Rings.op g75) (a := r74.2) (st_star_f (A := ring_Rings.fl b28 r74.2 g75) h)) ?_
                  obtain rfl := Option.some.inj hm80
                  refine ex_st (fun _ h => st_pk 4 [2, 3, 1, 0] (by decide) h) ?_
                  exact x_r1 rfl (rv_t rfl) (Le.refl _) ⟨_, rfl, v81, (⟨(pt b20 0, g10), (pt b28 0, g75)⟩ : tiny_Tiny.G), rfl, rfl, rfl⟩
                · have hm66 := iff_ hm63 h65
                  clear hm63
                  refine c_skip ?_
                  refine x_seq ?_
                  refine c_seq ?_
                  refine c_reg ?_
                  refine r_u (o_mv rfl) ?_
                  refine r_u (o_nc rfl) ?_
                  refine r_u (o_fa fa196_2 rfl) ?_
                  refine r_u (o_ld 1 sc191 rfl rfl rfl) ?_
                  refine r_u (o_mv rfl) ?_
                  refine rl_st (fun _ h => mv4 h) ?_
                  refine rl_st (fun _ h => st_some_o h) ?_
                  refine rl_st (fun _ h => st_star_o h) ?_
                  obtain ⟨r82, hr82, hm88⟩ := bs hm66
                  clear hm66
                  refine r_sw (s_w (o_call ca117 rfl (ring_Rings_Drop.ok b28 r35.2 g36 r46.1 r82 hr82))) ?_
                  rintro _ R _ _ ⟨g83, rfl, rfl, rfl⟩
                  refine r_nil ?_
                  refine x_seq ?_
                  refine c_seq ?_
                  refine c_reg ?_
                  refine r_u (o_mv rfl) ?_
                  refine r_sw (s_w (o_bsl (en := eS) (sz := 1) (e := 9) (cs := [vS r46.1]) (r := [r46.1]) rfl (fun _ => by kernel_rfl) rfl (by decide) rfl (fun _ => rfl))) ?_
                  rintro v89 R _ _ ⟨rfl, rfl⟩
                  refine r_u (o_as rfl) ?_
                  refine r_nil ?_
                  refine x_seq ?_
                  refine c_ret ?_
                  refine ex_st (fun _ h => mv8 (mv9 (mv9 h))) ?_
                  refine ex_st (fun _ h => st_some (f := sketch_Sketch.op g10) (a := r25) (st_star_f (A := sketch_Sketch.fl b20 r25 g10) h)) ?_
                  refine ex_st (fun _ h => mv6 (mv6 (mv6 (mv6 (mv6 h))))) ?_
                  refine ex_st (fun _ h => st_some (f := ring_Rings.op g83) (a := r82.2) (st_star_f (A := ring_Rings.fl b28 r82.2 g83) h)) ?_
                  obtain rfl := Option.some.inj hm88
                  refine ex_st (fun _ h => st_pk 4 [2, 3, 1, 0] (by decide) h) ?_
                  exact x_r1 rfl (rv_t rfl) (Le.refl _) ⟨_, rfl, v89, (⟨(pt b20 0, g10), (pt b28 0, g83)⟩ : tiny_Tiny.G), rfl, rfl, rfl⟩
              · refine cd_by r59.2 (fun h90 => ?_) fun h90 => ?_
                · have hm91 := ift hp62 h90
                  clear hp62
                  obtain ⟨r92, hr92, hm93⟩ := bs hm91
                  clear hm91
                  obtain ⟨r94, hr94, hm95⟩ := bs hm93
                  clear hm93
                  refine c_any mixed (effs := []) (V := []) ?_
                  refine stage_ext [(0, vB r59.2), (1, vB r59.2), (2, pt b0_ 0), (3, pt b0_ 0), (4, pt b0_ 1), (5, pt b20 0), (6, vS r46.1), (7, vI r92), (8, pt b0_ 0), (9, pt b0_ 0), (10, pt b0_ 1), (11, pt b20 0), (12, vS r59.1), (13, vI r94), (14, vB (decide (r94 < r92))), (15, vB (decide (r94 < r92)))] rfl ?_
                  refine stage rfl rfl rfl rfl [0, 1, 3, 7, 15, 31, 3, 127, 3, 259, 771, 1795, 3, 8191, 16383, 32767] [0, 1, 2, 3, 4, 5, 6, 7, 8, 9, 10, 11, 12, 13, 14, 15] [] rfl rfl rfl (qc rfl rfl (s_u (o_mv rfl)) (qc rfl rfl (s_u (o_mv rfl)) (qc rfl rfl (s_y rfl rfl h90 (o_mv rfl)) (qc rfl rfl (s_y rfl rfl h90 (o_nc rfl)) (qc rfl rfl (s_y rfl rfl h90 (o_fa fa196_1 rfl)) (qc rfl rfl (s_y rfl rfl h90 (o_ld 3 sc194 rfl rfl rfl)) (qc rfl rfl (s_y rfl rfl h90 (o_mv rfl)) (qc rfl rfl (s_y rfl rfl h90 (o_callqP ca216 rfl (sketch_Sketch_Seen.ok b20 r25 g10 r46.1 r92 hr92) (fun _ h => st_pk 5 [0, 1, 2, 3, 4] (by decide) h) (fun _ h => st_pk 5 [0, 1, 2, 3, 4] (by decide) h))) (qc rfl rfl (s_y rfl rfl h90 (o_mv rfl)) (qc rfl rfl (s_y rfl rfl h90 (o_nc rfl)) (qc rfl rfl (s_y rfl rfl h90 (o_fa fa196_1 rfl)) (qc rfl rfl (s_y rfl rfl h90 (o_ld 3 sc194 rfl rfl rfl)) (qc rfl rfl (s_y rfl rfl h90 (o_mv rfl)) (qc rfl rfl (s_y rfl rfl h90 (o_callqP ca216 rfl (sketch_Sketch_Seen.ok b20 r25 g10 r59.1 r94 hr94) (fun _ h => st_pk 5 [0, 1, 2, 3, 4] (by decide) h) (fun _ h => st_pk 5 [0, 1, 2, 3, 4] (by decide) h))) (qc rfl rfl (s_y rfl rfl h90 (o_bin rfl rfl (bI_gt r92 r94))) (qc rfl rfl (s_u (o_pt rfl h90 rfl)) qn)))))))))))))))) en ?_
                  intro _
                  refine ex_sub (E' := [(0, pt b0_ 0), (5, vS r46.1), (7, vS r59.1), (86, vB (decide (r94 < r92)))]) ⟨rfl, rfl, rfl, rfl, trivial⟩ ?_
                  obtain rfl := Option.some.inj hm95
                  exact x_sub K64 ⟨rfl, rfl, rfl, rfl, trivial⟩ (fun _ h => st_pk 5 [0, 3, 1, 2, 4] (by decide) h)
                · have hm91 := iff_ hp62 h90
                  clear hp62
                  refine c_any mixed (effs := []) (V := []) ?_
                  refine stage_ext [(0, vB r59.2), (1, vB r59.2), (2, undef), (3, undef), (4, undef), (5, undef), (6, undef), (7, undef), (8, undef), (9, undef), (10, undef), (11, undef), (12, undef), (13, undef), (14, undef), (15, vB false)] rfl ?_
                  refine stage rfl rfl rfl rfl [0, 1, 3, 7, 15, 31, 3, 127, 3, 259, 771, 1795, 3, 8191, 16383, 32767] [0, 1, 2, 3, 4, 5, 6, 7, 8, 9, 10, 11, 12, 13, 14, 15] [] rfl rfl rfl (qc rfl rfl (s_u (o_mv rfl)) (qc rfl rfl (s_u (o_mv rfl)) (qc rfl rfl (s_n rfl rfl h90) (qc rfl rfl (s_n rfl rfl h90) (qc rfl rfl (s_n rfl rfl h90) (qc rfl rfl (s_n rfl rfl h90) (qc rfl rfl (s_n rfl rfl h90) (qc rfl rfl (s_n rfl rfl h90) (qc rfl rfl (s_n rfl rfl h90) (qc rfl rfl (s_n rfl rfl h90) (qc rfl rfl (s_n rfl rfl h90) (qc rfl rfl (s_n rfl rfl h90) (qc rfl rfl (s_n rfl rfl h90) (qc rfl rfl (s_n rfl rfl h90) (qc rfl rfl (s_n rfl rfl h90) (qc rfl rfl (s_u (o_pf rfl h90 rfl)) qn)))))))))))))))) en ?_
                  intro _
                  refine ex_sub (E' := [(0, pt b0_ 0), (5, vS r46.1), (7, vS r59.1), (86, vB false)]) ⟨rfl, rfl, rfl, rfl, trivial⟩ ?_
                  obtain rfl := Option.some.inj hm91
                  exact x_sub K64 ⟨rfl, rfl, rfl, rfl, trivial⟩ (fun _ h => st_pk 5 [0, 3, 1, 2, 4] (by decide) h)
  · refine cd_by (decide (64 < (a1.length : Int))) (fun h96 => ?_) fun h96 => ?_
    · have hm97 := ift hp14 h96
      clear hp14
      refine c_reg ?_
      refine r_u (o_mv rfl) ?_
      refine r_u (o_bin rfl rfl (bP_eqp Tryz.underlying142)) ?_
      refine r_u (o_mv rfl) ?_
      refine r_s (s_y rfl rfl rfl (o_mv rfl)) ?_
      refine r_s (s_y rfl rfl rfl (o_lenS Tryz.underlying9 rfl)) ?_
      refine r_s (s_y rfl rfl rfl (o_bin rfl rfl (bI_gt (a1.length : Int) 64))) ?_
      refine r_u (o_pf rfl rfl rfl) ?_
      refine r_u (o_mv rfl) ?_
      refine r_s (s_n rfl rfl h96) ?_
      refine r_s (s_n rfl rfl h96) ?_
      refine r_s (s_n rfl rfl h96) ?_
      refine r_u (o_pt rfl h96 rfl) ?_
      refine r_nil ?_
      obtain rfl := Option.some.inj hm97
      exact x_sub (K16 (⟨(pv1, g2), (pv4, g5)⟩ : tiny_Tiny.G)) ⟨rfl, rfl, rfl, trivial⟩ (fun _ h => st_pk 3 [0, 1, 2] (by decide) h)
    · have hm97 := iff_ hp14 h96
      clear hp14
      refine c_reg ?_
      refine r_u (o_mv rfl) ?_
      refine r_u (o_bin rfl rfl (bP_eqp Tryz.underlying142)) ?_
      refine r_u (o_mv rfl) ?_
      refine r_s (s_y rfl rfl rfl (o_mv rfl)) ?_
      refine r_s (s_y rfl rfl rfl (o_lenS Tryz.underlying9 rfl)) ?_
      refine r_s (s_y rfl rfl rfl (o_bin rfl rfl (bI_gt (a1.length : Int) 64))) ?_
      refine r_u (o_pf rfl rfl rfl) ?_
      refine r_u (o_mv rfl) ?_
      refine r_s (s_y rfl rfl h96 (o_mv rfl)) ?_
      refine r_s (s_y rfl rfl h96 (o_mv rfl)) ?_
      obtain ⟨r98, hr98, hm106⟩ := bs hm97
      clear hm97
      refine r_sw (s_yw rfl rfl h96 (o_call ca121 rfl (tiny_Tiny_Touch.ok b0_ a0 (⟨(pv1, g2), (pv4, g5)⟩ : tiny_Tiny.G) a1 r98 hr98))) ?_
      rintro _ R _ _ ⟨⟨⟨pv101, g102⟩, ⟨pv104, g105⟩⟩, rfl, rfl, rfl⟩
      refine r_u (o_pf rfl h96 rfl) ?_
      refine r_nil ?_
      obtain rfl := Option.some.inj hm106
      exact x_sub (K16 (⟨(pv101, g102), (pv104, g105)⟩ : tiny_Tiny.G)) ⟨rfl, rfl, rfl, trivial⟩ (fun _ h => st_pk 3 [0, 1, 2] (by decide) h)

def policy_Policy_Insert (a0 : policy_Policy) (a1 : Str) : Option (List Str × policy_Policy) :=
  if ((policy_Policy_Kind a0) == 1) then om a0.a (none) fun x8 => (arc_Arc_Insert x8 a1).bind fun r15 => some (r15.1, (⟨a0.kind, (some r15.2), a0.t⟩ : policy_Policy)) else if ((policy_Policy_Kind a0) == 2) then om a0.t (none) fun x24 => (tiny_Tiny_Insert x24 a1).bind fun r34 => some (r34.1, (⟨a0.kind, a0.a, (some r34.2)⟩ : policy_Policy)) else some ([], a0)
theorem policy_Policy_Insert.ok {G R F} (b0_ : Nat) (a0 : policy_Policy) (g0_ : policy_Policy.G) (a1 : Str) (r : List Str × policy_Policy) (hm : policy_Policy_Insert a0 a1 = some r) : CO Tryz.prog 123 [pt b0_ 0, vS a1] G R (Bk b0_ 144 [vI a0.kind, g0_.a.1, g0_.t.1] :: rO (arc_Arc.op g0_.a.2) g0_.a.1 a0.a :: rO (tiny_Tiny.op g0_.t.2) g0_.t.1 a0.t :: F)
    (Ret fun u R' L' => ∃ (p0 : Value) (q0 : policy_Policy.G), u = p0 ∧ R' = R ∧ L' = OwS true 9 1 eS p0 r.1 :: Bk b0_ 144 [vI r.2.kind, q0.a.1, q0.t.1] :: rO (arc_Arc.op q0.a.2) q0.a.1 r.2.a :: rO (tiny_Tiny.op q0.t.2) q0.t.1 r.2.t :: F) := by
  obtain ⟨⟨pv1, g2⟩, ⟨pv4, g5⟩⟩ := g0_
  unfold policy_Policy_Insert at hm
  refine co_ofN (N := 23) Tryz.func123 rfl rfl ?_
  refine c_seq ?_
  refine c_reg ?_
  refine r_u (o_as rfl) ?_
  refine r_nil ?_
  refine x_seq ?_
  refine c_seq ?_
  refine c_seq ?_
  refine c_reg ?_
  refine r_u (o_mv rfl) ?_
  refine r_c (s_w (o_call ca67 rfl (policy_Policy_Kind.ok b0_ a0 (⟨(pv1, g2), (pv4, g5)⟩ : policy_Policy.G) _ rfl))) ?_
  refine r_nil ?_
  refine x_seq ?_
  refine c_blk ?_
  refine c_seq ?_
  refine c_reg ?_
  refine r_u (o_bin rfl rfl (bI_eq (policy_Policy_Kind a0) 1)) ?_
  refine r_u (o_as rfl) ?_
  refine r_nil ?_
  refine x_seq ?_
  refine c_if (b := ((policy_Policy_Kind a0) == 1)) rfl (fun h6 => ?_) fun h6 => ?_
  · have hm7 := ift hm h6
    clear hm
    refine c_seq ?_
    refine cd_st (fun _ h => mv1 h) ?_
    refine cd_opt (fun ho10 => ?_) (fun x8 b9 ho10 => ?_)
    · rintro rfl
      have hm11 := om_n hm7 ho10
      clear hm7
      cases hm11
    · rintro rfl
      have hm11 := om_s hm7 ho10
      clear hm7
      obtain ⟨⟨pv13, g14⟩⟩ := g2
      refine cd_st (fun _ h => st_star_o h) ?_
      refine c_reg ?_
      refine r_u (o_mv rfl) ?_
      refine r_u (o_nc rfl) ?_
      refine r_u (o_fa fa144_1 rfl) ?_
      refine r_u (o_ld 2 sc141 rfl rfl rfl) ?_
      refine r_u (o_mv rfl) ?_
      obtain ⟨r15, hr15, hm21⟩ := bs hm11
      clear hm11
      refine r_sw (s_w (o_call ca167 rfl (arc_Arc_Insert.ok b9 x8 (⟨(pv13, g14)⟩ : arc_Arc.G) a1 r15 hr15))) ?_
      rintro v16 R _ _ ⟨_, ⟨⟨pv19, g20⟩⟩, rfl, rfl, rfl⟩
      refine r_u (o_as rfl) ?_
      refine r_nil ?_
      refine x_seq ?_
      refine c_ret ?_
      refine ex_st (fun _ h => mv2 (mv2 h)) ?_
      refine ex_st (fun _ h => st_some (f := arc_Arc.op (⟨(pv19, g20)⟩ : arc_Arc.G)) (a := r15.2) (st_star_f (A := arc_Arc.fl b9 r15.2 (⟨(pv19, g20)⟩ : arc_Arc.G)) h)) ?_
      obtain rfl := Option.some.inj hm21
      refine ex_st (fun _ h => st_pk 4 [1, 2, 0, 3] (by decide) h) ?_
      exact x_r1 rfl (rv_t rfl) (Le.refl _) ⟨_, rfl, v16, (⟨(pt b9 0, (⟨(pv19, g20)⟩ : arc_Arc.G)), (pv4, g5)⟩ : policy_Policy.G), rfl, rfl, rfl⟩
  · have hm7 := iff_ hm h6
    clear hm
    refine c_seq ?_
    refine c_reg ?_
    refine r_u (o_bin rfl rfl (bI_eq (policy_Policy_Kind a0) 2)) ?_
    refine r_u (o_as rfl) ?_
    refine r_nil ?_
    refine x_seq ?_
    refine c_if (b := ((policy_Policy_Kind a0) == 2)) rfl (fun h22 => ?_) fun h22 => ?_
    · have hm23 := ift hm7 h22
      clear hm7
      refine c_seq ?_
      refine cd_st (fun _ h => mv2 h) ?_
      refine cd_opt (fun ho26 => ?_) (fun x24 b25 ho26 => ?_)
      · rintro rfl
        have hm27 := om_n hm23 ho26
        clear hm23
        cases hm27
      · rintro rfl
        have hm27 := om_s hm23 ho26
        clear hm23
        obtain ⟨⟨pv29, g30⟩, ⟨pv32, g33⟩⟩ := g5
        refine cd_st (fun _ h => st_star_o h) ?_
        refine c_reg ?_
        refine r_u (o_mv rfl) ?_
        refine r_u (o_nc rfl) ?_
        refine r_u (o_fa fa144_2 rfl) ?_
        refine r_u (o_ld 3 sc142 rfl rfl rfl) ?_
        refine r_u (o_mv rfl) ?_
        obtain ⟨r34, hr34, hm43⟩ := bs hm27
        clear hm27
        refine r_sw (s_w (o_call ca168 rfl (tiny_Tiny_Insert.ok b25 x24 (⟨(pv29, g30), (pv32, g33)⟩ : tiny_Tiny.G) a1 r34 hr34))) ?_
        rintro v35 R _ _ ⟨_, ⟨⟨pv38, g39⟩, ⟨pv41, g42⟩⟩, rfl, rfl, rfl⟩
        refine r_u (o_as rfl) ?_
        refine r_nil ?_
        refine x_seq ?_
        refine c_ret ?_
        refine ex_st (fun _ h => mv3 (mv3 (mv3 h))) ?_
        refine ex_st (fun _ h => st_some (f := tiny_Tiny.op (⟨(pv38, g39), (pv41, g42)⟩ : tiny_Tiny.G)) (a := r34.2) (st_star_f (A := tiny_Tiny.fl b25 r34.2 (⟨(pv38, g39), (pv41, g42)⟩ : tiny_Tiny.G)) h)) ?_
        obtain rfl := Option.some.inj hm43
        refine ex_st (fun _ h => st_pk 4 [1, 2, 3, 0] (by decide) h) ?_
        exact x_r1 rfl (rv_t rfl) (Le.refl _) ⟨_, rfl, v35, (⟨(pv1, g2), (pt b25 0, (⟨(pv38, g39), (pv41, g42)⟩ : tiny_Tiny.G))⟩ : policy_Policy.G), rfl, rfl, rfl⟩
    · have hm23 := iff_ hm7 h22
      clear hm7
      refine c_skip ?_
      refine x_blk ?_
      refine x_seq ?_
      refine c_seq ?_
      refine c_reg ?_
      refine r_u (o_as rfl) ?_
      refine r_nil ?_
      refine x_seq ?_
      refine c_ret ?_
      refine ex_st (fun _ h => st_nil (ap := true) (T := 9) (sz := 1) (en := eS) h) ?_
      obtain rfl := Option.some.inj hm23
      exact x_r1 rfl (rv_t rfl) (Le.refl _) ⟨_, rfl, (.slice none 0 0), (⟨(pv1, g2), (pv4, g5)⟩ : policy_Policy.G), rfl, rfl, rfl⟩

def table_Table_Bytes (a0 : table_Table) : Int :=
  a0.bytes
theorem table_Table_Bytes.ok {G R F} (b0_ : Nat) (a0 : table_Table) (g0_ : table_Table.G) (r : Int) (hm : table_Table_Bytes a0 = r) : CO Tryz.prog 107 [pt b0_ 0] G R (Bk b0_ 138 [g0_.m, vI a0.bytes] :: OwM vS api_Entry.v g0_.m a0.m :: F)
    (Ret fun u R' L' => u = vI r ∧ R' = R ∧ L' = Bk b0_ 138 [g0_.m, vI a0.bytes] :: OwM vS api_Entry.v g0_.m a0.m :: F) := by
  unfold table_Table_Bytes at hm
  refine co_ofN (N := 9) Tryz.func107 rfl rfl ?_
  refine c_seq ?_
  refine c_reg ?_
  refine r_u (o_as rfl) ?_
  refine r_nil ?_
  refine x_seq ?_
  refine c_seq ?_
  refine c_seq ?_
  refine c_reg ?_
  refine r_u (o_mv rfl) ?_
  refine r_u (o_bin rfl rfl (bP_eqp Tryz.underlying92)) ?_
  refine r_nil ?_
  refine x_seq ?_
  refine c_ff rfl ?_
  refine c_skip ?_
  refine x_seq ?_
  refine c_seq ?_
  refine c_reg ?_
  refine r_u (o_mv rfl) ?_
  refine r_u (o_nc rfl) ?_
  refine r_u (o_fa fa138_1 rfl) ?_
  refine r_u (o_ld 0 sc3 rfl rfl rfl) ?_
  refine r_u (o_as rfl) ?_
  refine r_nil ?_
  refine x_seq ?_
  refine c_ret ?_
  subst hm
  exact x_r1 rfl (rv_t rfl) (Le.refl _) ⟨_, rfl, rfl, rfl, rfl⟩

def arc_Arc_Evict (a0 : arc_Arc) : Option (Str × Bool × arc_Arc) :=
  (arc_Arc_Len a0).bind fun r3 => if (r3 == 0) then some ([], false, a0) else (arc_Arc_replace a0 false).bind fun r7 => (gi r7.1 0).bind fun x14 => some (x14, true, r7.2)
theorem arc_Arc_Evict.ok {G R F} (b0_ : Nat) (a0 : arc_Arc) (g0_ : arc_Arc.G) (r : Str × Bool × arc_Arc) (hm : arc_Arc_Evict a0 = some r) : CO Tryz.prog 169 [pt b0_ 0] G R (Bk b0_ 193 [vI a0.most, vI a0.target, g0_.r.1] :: rO (ring_Rings.op g0_.r.2) g0_.r.1 a0.r :: F)
    (Ret fun u R' L' => ∃ (q0 : arc_Arc.G), u = .tuple #[vS r.1, vB r.2.1] ∧ R' = R ∧ L' = Bk b0_ 193 [vI r.2.2.most, vI r.2.2.target, q0.r.1] :: rO (ring_Rings.op q0.r.2) q0.r.1 r.2.2.r :: F) := by
  obtain ⟨⟨pv1, g2⟩⟩ := g0_
  unfold arc_Arc_Evict at hm
  refine co_ofN (N := 11) Tryz.func169 rfl rfl ?_
  refine c_seq ?_
  refine c_reg ?_
  refine r_u (o_as rfl) ?_
  refine r_u (o_as rfl) ?_
  refine r_nil ?_
  refine x_seq ?_
  refine c_seq ?_
  refine c_seq ?_
  refine c_reg ?_
  refine r_u (o_mv rfl) ?_
  obtain ⟨r3, hr3, hm4⟩ := bs hm
  clear hm
  refine r_c (s_w (o_call ca157 rfl (arc_Arc_Len.ok b0_ a0 (⟨(pv1, g2)⟩ : arc_Arc.G) r3 hr3))) ?_
  refine r_u (o_bin rfl rfl (bI_eq r3 0)) ?_
  refine r_nil ?_
  refine x_seq ?_
  refine c_if (b := (r3 == 0)) rfl (fun h5 => ?_) fun h5 => ?_
  · have hm6 := ift hm4 h5
    clear hm4
    refine c_seq ?_
    refine c_reg ?_
    refine r_u (o_as rfl) ?_
    refine r_u (o_as rfl) ?_
    refine r_nil ?_
    refine x_seq ?_
    refine c_ret ?_
    obtain rfl := Option.some.inj hm6
    exact x_r2 rfl (rv_t rfl) (rv_t rfl) (Le.refl _) ⟨_, rfl, (⟨(pv1, g2)⟩ : arc_Arc.G), rfl, rfl, rfl⟩
  · have hm6 := iff_ hm4 h5
    clear hm4
    refine c_skip ?_
    refine x_seq ?_
    refine c_seq ?_
    refine c_reg ?_
    refine r_u (o_mv rfl) ?_
    obtain ⟨r7, hr7, hm13⟩ := bs hm6
    clear hm6
    refine r_sw (s_w (o_call ca214 rfl (arc_Arc_replace.ok b0_ a0 (⟨(pv1, g2)⟩ : arc_Arc.G) false r7 hr7))) ?_
    rintro v8 R _ _ ⟨_, ⟨⟨pv11, g12⟩⟩, rfl, rfl, rfl⟩
    obtain ⟨x14, hx14, hm15⟩ := bs hm13
    clear hm13
    refine r_u (o_ixO 0 Tryz.underlying98 (fun _ => by kernel_rfl) rfl rfl rfl hx14) ?_
    refine r_u (o_ldO0 0 sc9 rfl rfl hx14 rfl rfl) ?_
    refine r_u (o_as rfl) ?_
    refine r_u (o_as rfl) ?_
    refine r_nil ?_
    refine x_seq ?_
    refine c_ret ?_
    obtain rfl := Option.some.inj hm15
    refine ex_st (fun _ h => st_pk 3 [1, 2] (by decide) h) ?_
    exact x_r2 rfl (rv_t rfl) (rv_t rfl) (Le.refl _) ⟨_, rfl, (⟨(pv11, g12)⟩ : arc_Arc.G), rfl, rfl, rfl⟩

def tiny_Tiny_Evict (a0 : tiny_Tiny) : Option (Str × Bool × tiny_Tiny) :=
  (tiny_Tiny_Len a0).bind fun r6 => if (r6 == 0) then some ([], false, a0) else om a0.r (none) fun x10 => (ring_Rings_Back x10 1).bind fun r18 => Option.bind (if !r18.2 then (ring_Rings_Back x10 0).bind fun r41 => some (r41.1, r41.2) else some (r18.1, r18.2)) fun p20 => Option.bind (if !p20.2 then (ring_Rings_Back x10 2).bind fun r37 => some r37.1 else some p20.1) fun p24 => (ring_Rings_Drop x10 p24).bind fun r28 => some (p24, true, (⟨a0.most, a0.s, (some r28.2)⟩ : tiny_Tiny))
theorem tiny_Tiny_Evict.ok {G R F} (b0_ : Nat) (a0 : tiny_Tiny) (g0_ : tiny_Tiny.G) (r : Str × Bool × tiny_Tiny) (hm : tiny_Tiny_Evict a0 = some r) : CO Tryz.prog 170 [pt b0_ 0] G R (Bk b0_ 196 [vI a0.most, g0_.s.1, g0_.r.1] :: rO (sketch_Sketch.op g0_.s.2) g0_.s.1 a0.s :: rO (ring_Rings.op g0_.r.2) g0_.r.1 a0.r :: F)
    (Ret fun u R' L' => ∃ (q0 : tiny_Tiny.G), u = .tuple #[vS r.1, vB r.2.1] ∧ R' = R ∧ L' = Bk b0_ 196 [vI r.2.2.most, q0.s.1, q0.r.1] :: rO (sketch_Sketch.op q0.s.2) q0.s.1 r.2.2.s :: rO (ring_Rings.op q0.r.2) q0.r.1 r.2.2.r :: F) := by
  obtain ⟨⟨pv1, g2⟩, ⟨pv4, g5⟩⟩ := g0_
  unfold tiny_Tiny_Evict at hm
  refine co_ofN (N := 44) Tryz.func170 rfl rfl ?_
  refine c_seq ?_
  refine c_reg ?_
  refine r_u (o_as rfl) ?_
  refine r_u (o_as rfl) ?_
  refine r_nil ?_
  refine x_seq ?_
  refine c_seq ?_
  refine c_seq ?_
  refine c_reg ?_
  refine r_u (o_mv rfl) ?_
  obtain ⟨r6, hr6, hm7⟩ := bs hm
  clear hm
  refine r_c (s_w (o_call ca158 rfl (tiny_Tiny_Len.ok b0_ a0 (⟨(pv1, g2), (pv4, g5)⟩ : tiny_Tiny.G) r6 hr6))) ?_
  refine r_u (o_bin rfl rfl (bI_eq r6 0)) ?_
  refine r_nil ?_
  refine x_seq ?_
  refine c_if (b := (r6 == 0)) rfl (fun h8 => ?_) fun h8 => ?_
  · have hm9 := ift hm7 h8
    clear hm7
    refine c_seq ?_
    refine c_reg ?_
    refine r_u (o_as rfl) ?_
    refine r_u (o_as rfl) ?_
    refine r_nil ?_
    refine x_seq ?_
    refine c_ret ?_
    obtain rfl := Option.some.inj hm9
    exact x_r2 rfl (rv_t rfl) (rv_t rfl) (Le.refl _) ⟨_, rfl, (⟨(pv1, g2), (pv4, g5)⟩ : tiny_Tiny.G), rfl, rfl, rfl⟩
  · have hm9 := iff_ hm7 h8
    clear hm7
    refine c_skip ?_
    refine x_seq ?_
    refine c_seq ?_
    refine cd_st (fun _ h => mv2 h) ?_
    refine cd_opt (fun ho12 => ?_) (fun x10 b11 ho12 => ?_)
    · rintro rfl
      have hm13 := om_n hm9 ho12
      clear hm9
      cases hm13
    · rintro rfl
      have hm13 := om_s hm9 ho12
      clear hm9
      refine cd_st (fun _ h => st_star_o h) ?_
      refine c_reg ?_
      refine r_u (o_mv rfl) ?_
      refine r_u (o_nc rfl) ?_
      refine r_u (o_fa fa196_2 rfl) ?_
      refine r_u (o_ld 5 sc191 rfl rfl rfl) ?_
      obtain ⟨r18, hr18, hm19⟩ := bs hm13
      clear hm13
      refine r_c (s_w (o_call ca166 rfl (ring_Rings_Back.ok b11 x10 g5 1 r18 hr18))) ?_
      refine r_u (o_mv rfl) ?_
      refine r_u (o_ext rfl rfl) ?_
      refine r_u (o_ext rfl rfl) ?_
      refine r_u (o_as rfl) ?_
      refine r_u (o_as rfl) ?_
      refine r_nil ?_
      refine x_seq ?_
      refine c_seq ?_
      refine c_seq ?_
      refine c_reg ?_
      refine r_u (o_mv rfl) ?_
      refine r_u (o_not rfl) ?_
      refine r_nil ?_
      refine x_seq ?_
      obtain ⟨p20, hp21, hm22⟩ := bs hm19
      refine cd_join (E' := [(0, pt b0_ 0), (4, vS p20.1), (5, vB p20.2)]) (L' := Bk b11 237 [vI x10.lists, g5.slots, g5.free, g5.at_, g5.many] :: Bk b0_ 196 [vI a0.most, pv1, pt b11 0] :: OwS true 240 4 ring_slot.c g5.slots x10.slots :: OwS true 3 1 eI g5.free x10.free :: OwM vS vI g5.at_ x10.at_ :: OwS true 3 1 eI g5.many x10.many :: rO (sketch_Sketch.op g2) pv1 a0.s :: F) ?_ fun K23 => ?_
      · refine x_seq ?_
        refine c_seq ?_
        refine c_seq ?_
        refine c_reg ?_
        refine r_u (o_mv rfl) ?_
        refine r_u (o_not rfl) ?_
        refine r_nil ?_
        refine x_seq ?_
        obtain ⟨p24, hp25, hm26⟩ := bs hm22
        refine cd_join (E' := [(0, pt b0_ 0), (4, vS p24)]) (L' := Bk b11 237 [vI x10.lists, g5.slots, g5.free, g5.at_, g5.many] :: Bk b0_ 196 [vI a0.most, pv1, pt b11 0] :: OwS true 240 4 ring_slot.c g5.slots x10.slots :: OwS true 3 1 eI g5.free x10.free :: OwM vS vI g5.at_ x10.at_ :: OwS true 3 1 eI g5.many x10.many :: rO (sketch_Sketch.op g2) pv1 a0.s :: F) ?_ fun K27 => ?_
        · refine x_seq ?_
          refine c_seq ?_
          refine c_reg ?_
          refine r_u (o_mv rfl) ?_
          refine r_u (o_nc rfl) ?_
          refine r_u (o_fa fa196_2 rfl) ?_
          refine r_u (o_ld 1 sc191 rfl rfl rfl) ?_
          refine r_u (o_mv rfl) ?_
          obtain ⟨r28, hr28, hm34⟩ := bs hm26
          clear hm26
          refine rl_st (fun _ h => mv4 (mv5 (mv5 (mv5 (mv5 h))))) ?_
          refine r_sw (s_w (o_call ca117 rfl (ring_Rings_Drop.ok b11 x10 g5 p24 r28 hr28))) ?_
          rintro _ R _ _ ⟨g29, rfl, rfl, rfl⟩
          refine r_nil ?_
          refine x_seq ?_
          refine c_seq ?_
          refine c_reg ?_
          refine r_u (o_mv rfl) ?_
          refine r_u (o_as rfl) ?_
          refine r_u (o_as rfl) ?_
          refine r_nil ?_
          refine x_seq ?_
          refine c_ret ?_
          refine ex_st (fun _ h => st_some (f := ring_Rings.op g29) (a := r28.2) (st_star_f (A := ring_Rings.fl b11 r28.2 g29) h)) ?_
          obtain rfl := Option.some.inj hm34
          refine ex_st (fun _ h => st_pk 3 [1, 2, 0] (by decide) h) ?_
          exact x_r2 rfl (rv_t rfl) (rv_t rfl) (Le.refl _) ⟨_, rfl, (⟨(pv1, g2), (pt b11 0, g29)⟩ : tiny_Tiny.G), rfl, rfl, rfl⟩
        · refine c_if (b := !p20.2) rfl (fun h35 => ?_) fun h35 => ?_
          · have hm36 := ift hp25 h35
            clear hp25
            refine c_reg ?_
            refine r_u (o_mv rfl) ?_
            refine r_u (o_nc rfl) ?_
            refine r_u (o_fa fa196_2 rfl) ?_
            refine r_u (o_ld 1 sc191 rfl rfl rfl) ?_
            obtain ⟨r37, hr37, hm38⟩ := bs hm36
            clear hm36
            refine rl_st (fun _ h => mv4 (mv5 (mv5 (mv5 (mv5 h))))) ?_
            refine r_c (s_w (o_call ca166 rfl (ring_Rings_Back.ok b11 x10 g5 2 r37 hr37))) ?_
            refine r_u (o_mv rfl) ?_
            refine r_u (o_ext rfl rfl) ?_
            refine r_u (o_ext rfl rfl) ?_
            refine r_u (o_as rfl) ?_
            refine r_nil ?_
            obtain rfl := Option.some.inj hm38
            exact x_sub K27 ⟨rfl, rfl, trivial⟩ (fun _ h => st_pk 7 [0, 5, 1, 2, 3, 4, 6] (by decide) h)
          · have hm36 := iff_ hp25 h35
            clear hp25
            refine c_skip ?_
            obtain rfl := Option.some.inj hm36
            exact x_sub K27 ⟨rfl, rfl, trivial⟩ (fun _ h => st_pk 7 [0, 1, 2, 3, 4, 5, 6] (by decide) h)
      · refine c_if (b := !r18.2) rfl (fun h39 => ?_) fun h39 => ?_
        · have hm40 := ift hp21 h39
          clear hp21
          refine c_reg ?_
          refine r_u (o_mv rfl) ?_
          refine r_u (o_nc rfl) ?_
          refine r_u (o_fa fa196_2 rfl) ?_
          refine r_u (o_ld 5 sc191 rfl rfl rfl) ?_
          obtain ⟨r41, hr41, hm42⟩ := bs hm40
          clear hm40
          refine r_c (s_w (o_call ca166 rfl (ring_Rings_Back.ok b11 x10 g5 0 r41 hr41))) ?_
          refine r_u (o_mv rfl) ?_
          refine r_u (o_ext rfl rfl) ?_
          refine r_u (o_ext rfl rfl) ?_
          refine r_u (o_as rfl) ?_
          refine r_u (o_as rfl) ?_
          refine r_nil ?_
          obtain rfl := Option.some.inj hm42
          exact x_sub K23 ⟨rfl, rfl, rfl, trivial⟩ (fun _ h => st_pk 7 [0, 5, 1, 2, 3, 4, 6] (by decide) h)
        · have hm40 := iff_ hp21 h39
          clear hp21
          refine c_skip ?_
          obtain rfl := Option.some.inj hm40
          exact x_sub K23 ⟨rfl, rfl, rfl, trivial⟩ (fun _ h => st_pk 7 [0, 5, 1, 2, 3, 4, 6] (by decide) h)

def policy_Policy_Evict (a0 : policy_Policy) : Option (Str × Bool × policy_Policy) :=
  if ((policy_Policy_Kind a0) == 1) then om a0.a (none) fun x8 => (arc_Arc_Evict x8).bind fun r15 => some (r15.1, r15.2.1, (⟨a0.kind, (some r15.2.2), a0.t⟩ : policy_Policy)) else if ((policy_Policy_Kind a0) == 2) then om a0.t (none) fun x23 => (tiny_Tiny_Evict x23).bind fun r33 => some (r33.1, r33.2.1, (⟨a0.kind, a0.a, (some r33.2.2)⟩ : policy_Policy)) else some ([], false, a0)
theorem policy_Policy_Evict.ok {G R F} (b0_ : Nat) (a0 : policy_Policy) (g0_ : policy_Policy.G) (r : Str × Bool × policy_Policy) (hm : policy_Policy_Evict a0 = some r) : CO Tryz.prog 124 [pt b0_ 0] G R (Bk b0_ 144 [vI a0.kind, g0_.a.1, g0_.t.1] :: rO (arc_Arc.op g0_.a.2) g0_.a.1 a0.a :: rO (tiny_Tiny.op g0_.t.2) g0_.t.1 a0.t :: F)
    (Ret fun u R' L' => ∃ (q0 : policy_Policy.G), u = .tuple #[vS r.1, vB r.2.1] ∧ R' = R ∧ L' = Bk b0_ 144 [vI r.2.2.kind, q0.a.1, q0.t.1] :: rO (arc_Arc.op q0.a.2) q0.a.1 r.2.2.a :: rO (tiny_Tiny.op q0.t.2) q0.t.1 r.2.2.t :: F) := by
  obtain ⟨⟨pv1, g2⟩, ⟨pv4, g5⟩⟩ := g0_
  unfold policy_Policy_Evict at hm
  refine co_ofN (N := 24) Tryz.func124 rfl rfl ?_
  refine c_seq ?_
  refine c_reg ?_
  refine r_u (o_as rfl) ?_
  refine r_u (o_as rfl) ?_
  refine r_nil ?_
  refine x_seq ?_
  refine c_seq ?_
  refine c_seq ?_
  refine c_reg ?_
  refine r_u (o_mv rfl) ?_
  refine r_c (s_w (o_call ca67 rfl (policy_Policy_Kind.ok b0_ a0 (⟨(pv1, g2), (pv4, g5)⟩ : policy_Policy.G) _ rfl))) ?_
  refine r_nil ?_
  refine x_seq ?_
  refine c_blk ?_
  refine c_seq ?_
  refine c_reg ?_
  refine r_u (o_bin rfl rfl (bI_eq (policy_Policy_Kind a0) 1)) ?_
  refine r_u (o_as rfl) ?_
  refine r_nil ?_
  refine x_seq ?_
  refine c_if (b := ((policy_Policy_Kind a0) == 1)) rfl (fun h6 => ?_) fun h6 => ?_
  · have hm7 := ift hm h6
    clear hm
    refine c_seq ?_
    refine cd_st (fun _ h => mv1 h) ?_
    refine cd_opt (fun ho10 => ?_) (fun x8 b9 ho10 => ?_)
    · rintro rfl
      have hm11 := om_n hm7 ho10
      clear hm7
      cases hm11
    · rintro rfl
      have hm11 := om_s hm7 ho10
      clear hm7
      obtain ⟨⟨pv13, g14⟩⟩ := g2
      refine cd_st (fun _ h => st_star_o h) ?_
      refine c_reg ?_
      refine r_u (o_mv rfl) ?_
      refine r_u (o_nc rfl) ?_
      refine r_u (o_fa fa144_1 rfl) ?_
      refine r_u (o_ld 2 sc141 rfl rfl rfl) ?_
      obtain ⟨r15, hr15, hm20⟩ := bs hm11
      clear hm11
      refine r_sw (s_w (o_call ca169 rfl (arc_Arc_Evict.ok b9 x8 (⟨(pv13, g14)⟩ : arc_Arc.G) r15 hr15))) ?_
      rintro _ R _ _ ⟨⟨⟨pv18, g19⟩⟩, rfl, rfl, rfl⟩
      refine r_u (o_ext rfl rfl) ?_
      refine r_u (o_ext rfl rfl) ?_
      refine r_u (o_as rfl) ?_
      refine r_u (o_as rfl) ?_
      refine r_nil ?_
      refine x_seq ?_
      refine c_ret ?_
      refine ex_st (fun _ h => st_some (f := arc_Arc.op (⟨(pv18, g19)⟩ : arc_Arc.G)) (a := r15.2.2) (st_star_f (A := arc_Arc.fl b9 r15.2.2 (⟨(pv18, g19)⟩ : arc_Arc.G)) h)) ?_
      obtain rfl := Option.some.inj hm20
      refine ex_st (fun _ h => st_pk 3 [1, 0, 2] (by decide) h) ?_
      exact x_r2 rfl (rv_t rfl) (rv_t rfl) (Le.refl _) ⟨_, rfl, (⟨(pt b9 0, (⟨(pv18, g19)⟩ : arc_Arc.G)), (pv4, g5)⟩ : policy_Policy.G), rfl, rfl, rfl⟩
  · have hm7 := iff_ hm h6
    clear hm
    refine c_seq ?_
    refine c_reg ?_
    refine r_u (o_bin rfl rfl (bI_eq (policy_Policy_Kind a0) 2)) ?_
    refine r_u (o_as rfl) ?_
    refine r_nil ?_
    refine x_seq ?_
    refine c_if (b := ((policy_Policy_Kind a0) == 2)) rfl (fun h21 => ?_) fun h21 => ?_
    · have hm22 := ift hm7 h21
      clear hm7
      refine c_seq ?_
      refine cd_st (fun _ h => mv2 h) ?_
      refine cd_opt (fun ho25 => ?_) (fun x23 b24 ho25 => ?_)
      · rintro rfl
        have hm26 := om_n hm22 ho25
        clear hm22
        cases hm26
      · rintro rfl
        have hm26 := om_s hm22 ho25
        clear hm22
        obtain ⟨⟨pv28, g29⟩, ⟨pv31, g32⟩⟩ := g5
        refine cd_st (fun _ h => st_star_o h) ?_
        refine c_reg ?_
        refine r_u (o_mv rfl) ?_
        refine r_u (o_nc rfl) ?_
        refine r_u (o_fa fa144_2 rfl) ?_
        refine r_u (o_ld 3 sc142 rfl rfl rfl) ?_
        obtain ⟨r33, hr33, hm41⟩ := bs hm26
        clear hm26
        refine r_sw (s_w (o_call ca170 rfl (tiny_Tiny_Evict.ok b24 x23 (⟨(pv28, g29), (pv31, g32)⟩ : tiny_Tiny.G) r33 hr33))) ?_
        rintro _ R _ _ ⟨⟨⟨pv36, g37⟩, ⟨pv39, g40⟩⟩, rfl, rfl, rfl⟩
        refine r_u (o_ext rfl rfl) ?_
        refine r_u (o_ext rfl rfl) ?_
        refine r_u (o_as rfl) ?_
        refine r_u (o_as rfl) ?_
        refine r_nil ?_
        refine x_seq ?_
        refine c_ret ?_
        refine ex_st (fun _ h => st_some (f := tiny_Tiny.op (⟨(pv36, g37), (pv39, g40)⟩ : tiny_Tiny.G)) (a := r33.2.2) (st_star_f (A := tiny_Tiny.fl b24 r33.2.2 (⟨(pv36, g37), (pv39, g40)⟩ : tiny_Tiny.G)) h)) ?_
        obtain rfl := Option.some.inj hm41
        refine ex_st (fun _ h => st_pk 3 [1, 2, 0] (by decide) h) ?_
        exact x_r2 rfl (rv_t rfl) (rv_t rfl) (Le.refl _) ⟨_, rfl, (⟨(pv1, g2), (pt b24 0, (⟨(pv36, g37), (pv39, g40)⟩ : tiny_Tiny.G))⟩ : policy_Policy.G), rfl, rfl, rfl⟩
    · have hm22 := iff_ hm7 h21
      clear hm7
      refine c_skip ?_
      refine x_blk ?_
      refine x_seq ?_
      refine c_seq ?_
      refine c_reg ?_
      refine r_u (o_as rfl) ?_
      refine r_u (o_as rfl) ?_
      refine r_nil ?_
      refine x_seq ?_
      refine c_ret ?_
      obtain rfl := Option.some.inj hm22
      exact x_r2 rfl (rv_t rfl) (rv_t rfl) (Le.refl _) ⟨_, rfl, (⟨(pv1, g2), (pv4, g5)⟩ : policy_Policy.G), rfl, rfl, rfl⟩

end Go.Proofs.YtpanhdnglicknaaGreat
