import Derived.Test.YtpanhdnglicknaaW2
import Derived.Test.YtpanhdnglicknaaFacts
import Derived.Test.YtpanhdnglicknaaHwZ
set_option linter.unusedVariables false
set_option linter.unusedSectionVars false
set_option linter.unusedSimpArgs false
set_option maxRecDepth 100000
set_option maxHeartbeats 8000000
namespace Go.Proofs.Ytpanhdnglicknaa
open Go Go.Proofs.Ytpanhdnglicknaa.Hw
def policy_Policy_Miss (a0 : policy_Policy) (a1 : Str) : Option policy_Policy :=
  if ((policy_Policy_Kind a0) == 2) then om a0.t (none) fun x8 => if ((policy_Policy_Kind (⟨a0.kind, a0.a, (some x8)⟩ : policy_Policy)) == 2) then (tiny_Tiny_Has x8 a1).bind fun r20 => if !r20 then (tiny_Tiny_Miss x8 a1).bind fun r24 => some (⟨a0.kind, a0.a, (some r24)⟩ : policy_Policy) else some a0 else some a0 else some a0
theorem policy_Policy_Miss.ok {G R F} (b0_ : Nat) (a0 : policy_Policy) (g0_ : policy_Policy.G) (a1 : Str) (r : policy_Policy) (hm : policy_Policy_Miss a0 a1 = some r) : CO Try.prog 30 [pt b0_ 0, vS a1] G R (Bk b0_ 72 [vI a0.kind, g0_.a.1, g0_.t.1] :: rO (arc_Arc.op g0_.a.2) g0_.a.1 a0.a :: rO (tiny_Tiny.op g0_.t.2) g0_.t.1 a0.t :: F)
    (Ret fun u R' L' => u = .tuple #[] ∧ R' = R ∧ L' = Bk b0_ 72 [vI r.kind, g0_.a.1, g0_.t.1] :: rO (arc_Arc.op g0_.a.2) g0_.a.1 r.a :: rO (tiny_Tiny.op g0_.t.2) g0_.t.1 r.t :: F) := by
  obtain ⟨⟨pv1, g2⟩, ⟨pv4, g5⟩⟩ := g0_
  unfold policy_Policy_Miss at hm
  refine co_ofN (N := 22) Try.func30 rfl rfl ?_
  refine c_seq ?_
  refine cd_by ((policy_Policy_Kind a0) == 2) (fun h6 => ?_) fun h6 => ?_
  · have hm7 := ift hm h6
    clear hm
    refine cd_st (fun _ h => mv2 h) ?_
    refine cd_opt (fun ho10 => ?_) (fun x8 b9 ho10 => ?_)
    · rintro rfl
      have hm11 := om_n hm7 ho10
      clear hm7
      cases hm11
    · rintro rfl
      have hm11 := om_s hm7 ho10
      clear hm7
      obtain ⟨⟨pv13, g14⟩, ⟨pv16, g17⟩⟩ := g5
      refine cd_st (fun _ h => st_star_o h) ?_
      refine cd_by ((policy_Policy_Kind (⟨a0.kind, a0.a, (some x8)⟩ : policy_Policy)) == 2) (fun h18 => ?_) fun h18 => ?_
      · have hm19 := ift hm11 h18
        clear hm11
        refine c_reg ?_
        refine r_u (o_mv rfl) ?_
        refine rl_st (fun _ h => st_some (f := tiny_Tiny.op (⟨(pv13, g14), (pv16, g17)⟩ : tiny_Tiny.G)) (a := x8) (st_star_f (A := tiny_Tiny.fl b9 x8 (⟨(pv13, g14), (pv16, g17)⟩ : tiny_Tiny.G)) h)) ?_
        refine rl_st (fun _ h => mv2 (mv2 h)) ?_
        refine r_c (s_w (o_call ca27 rfl (policy_Policy_Kind.ok b0_ (⟨a0.kind, a0.a, (some x8)⟩ : policy_Policy) (⟨(pv1, g2), (pt b9 0, (⟨(pv13, g14), (pv16, g17)⟩ : tiny_Tiny.G))⟩ : policy_Policy.G) _ rfl))) ?_
        refine r_u (o_bin rfl rfl (bI_eq (policy_Policy_Kind (⟨a0.kind, a0.a, (some x8)⟩ : policy_Policy)) 2)) ?_
        refine r_u (o_mv rfl) ?_
        refine r_s (s_y rfl rfl h18 (o_mv rfl)) ?_
        refine r_s (s_y rfl rfl h18 (o_nc rfl)) ?_
        refine r_s (s_y rfl rfl h18 (o_fa fa72_2 rfl)) ?_
        refine r_s (s_y rfl rfl h18 (o_ld 0 sc70 rfl rfl rfl)) ?_
        refine r_s (s_y rfl rfl h18 (o_mv rfl)) ?_
        refine rl_st (fun _ h => mv2 h) ?_
        refine rl_st (fun _ h => st_some_o h) ?_
        refine rl_st (fun _ h => st_star_o h) ?_
        obtain ⟨r20, hr20, hm21⟩ := bs hm19
        clear hm19
        refine r_c (s_yw rfl rfl h18 (o_call ca41 rfl (tiny_Tiny_Has.ok b9 x8 (⟨(pv13, g14), (pv16, g17)⟩ : tiny_Tiny.G) a1 r20 hr20))) ?_
        refine r_s (s_y rfl rfl h18 (o_not rfl)) ?_
        refine r_u (o_pt rfl h18 rfl) ?_
        refine r_nil ?_
        refine x_seq ?_
        refine c_if (b := !r20) rfl (fun h22 => ?_) fun h22 => ?_
        · have hm23 := ift hm21 h22
          clear hm21
          refine c_reg ?_
          refine r_u (o_mv rfl) ?_
          refine r_u (o_nc rfl) ?_
          refine r_u (o_fa fa72_2 rfl) ?_
          refine r_u (o_ld 3 sc70 rfl rfl rfl) ?_
          refine r_u (o_mv rfl) ?_
          obtain ⟨r24, hr24, hm25⟩ := bs hm23
          clear hm23
          refine r_c (s_w (o_call ca42 rfl (tiny_Tiny_Miss.ok b9 x8 (⟨(pv13, g14), (pv16, g17)⟩ : tiny_Tiny.G) a1 r24 hr24))) ?_
          refine r_nil ?_
          refine x_end ?_
          refine ex_st (fun _ h => st_some (f := tiny_Tiny.op (⟨(pv13, g14), (pv16, g17)⟩ : tiny_Tiny.G)) (a := r24) (st_star_f (A := tiny_Tiny.fl b9 r24 (⟨(pv13, g14), (pv16, g17)⟩ : tiny_Tiny.G)) h)) ?_
          obtain rfl := Option.some.inj hm25
          refine ex_st (fun _ h => st_pk 3 [1, 2, 0] (by decide) h) ?_
          exact x_r0 rfl (Le.refl _) ⟨_, rfl, rfl, rfl, rfl⟩
        · have hm23 := iff_ hm21 h22
          clear hm21
          refine c_skip ?_
          refine x_end ?_
          refine ex_st (fun _ h => st_some (f := tiny_Tiny.op (⟨(pv13, g14), (pv16, g17)⟩ : tiny_Tiny.G)) (a := x8) (st_star_f (A := tiny_Tiny.fl b9 x8 (⟨(pv13, g14), (pv16, g17)⟩ : tiny_Tiny.G)) h)) ?_
          refine ex_st (fun _ h => st_back ho10 h) ?_
          obtain rfl := Option.some.inj hm23
          refine ex_st (fun _ h => st_pk 3 [1, 2, 0] (by decide) h) ?_
          exact x_r0 rfl (Le.refl _) ⟨_, rfl, rfl, rfl, rfl⟩
      · have hm19 := iff_ hm11 h18
        clear hm11
        refine c_reg ?_
        refine r_u (o_mv rfl) ?_
        refine rl_st (fun _ h => st_some (f := tiny_Tiny.op (⟨(pv13, g14), (pv16, g17)⟩ : tiny_Tiny.G)) (a := x8) (st_star_f (A := tiny_Tiny.fl b9 x8 (⟨(pv13, g14), (pv16, g17)⟩ : tiny_Tiny.G)) h)) ?_
        refine rl_st (fun _ h => mv2 (mv2 h)) ?_
        refine r_c (s_w (o_call ca27 rfl (policy_Policy_Kind.ok b0_ (⟨a0.kind, a0.a, (some x8)⟩ : policy_Policy) (⟨(pv1, g2), (pt b9 0, (⟨(pv13, g14), (pv16, g17)⟩ : tiny_Tiny.G))⟩ : policy_Policy.G) _ rfl))) ?_
        refine r_u (o_bin rfl rfl (bI_eq (policy_Policy_Kind (⟨a0.kind, a0.a, (some x8)⟩ : policy_Policy)) 2)) ?_
        refine r_u (o_mv rfl) ?_
        refine r_s (s_n rfl rfl h18) ?_
        refine r_s (s_n rfl rfl h18) ?_
        refine r_s (s_n rfl rfl h18) ?_
        refine r_s (s_n rfl rfl h18) ?_
        refine r_s (s_n rfl rfl h18) ?_
        refine r_s (s_n rfl rfl h18) ?_
        refine r_s (s_n rfl rfl h18) ?_
        refine r_u (o_pf rfl h18 rfl) ?_
        refine r_nil ?_
        refine x_seq ?_
        refine c_ff rfl ?_
        refine c_skip ?_
        refine x_end ?_
        refine ex_st (fun _ h => mv2 h) ?_
        refine ex_st (fun _ h => st_back ho10 h) ?_
        obtain rfl := Option.some.inj hm19
        refine ex_st (fun _ h => st_pk 3 [1, 2, 0] (by decide) h) ?_
        exact x_r0 rfl (Le.refl _) ⟨_, rfl, rfl, rfl, rfl⟩
  · have hm7 := iff_ hm h6
    clear hm
    refine c_reg ?_
    refine r_u (o_mv rfl) ?_
    refine r_c (s_w (o_call ca27 rfl (policy_Policy_Kind.ok b0_ a0 (⟨(pv1, g2), (pv4, g5)⟩ : policy_Policy.G) _ rfl))) ?_
    refine r_u (o_bin rfl rfl (bI_eq (policy_Policy_Kind a0) 2)) ?_
    refine r_u (o_mv rfl) ?_
    refine r_s (s_n rfl rfl h6) ?_
    refine r_s (s_n rfl rfl h6) ?_
    refine r_s (s_n rfl rfl h6) ?_
    refine r_s (s_n rfl rfl h6) ?_
    refine r_s (s_n rfl rfl h6) ?_
    refine r_s (s_n rfl rfl h6) ?_
    refine r_s (s_n rfl rfl h6) ?_
    refine r_u (o_pf rfl h6 rfl) ?_
    refine r_nil ?_
    refine x_seq ?_
    refine c_ff rfl ?_
    refine c_skip ?_
    refine x_end ?_
    obtain rfl := Option.some.inj hm7
    exact x_r0 rfl (Le.refl _) ⟨_, rfl, rfl, rfl, rfl⟩

def ring_Rings_is (a0 : ring_Rings) (a1 : Int) : Bool :=
  (decide (0 ≤ a1) && decide (a1 < a0.lists))
theorem ring_Rings_is.ok {G R F} (b0_ : Nat) (a0 : ring_Rings) (g0_ : ring_Rings.G) (a1 : Int) (r : Bool) (hm : ring_Rings_is a0 a1 = r) : CO Try.prog 69 [pt b0_ 0, vI a1] G R (Bk b0_ 109 [vI a0.lists, g0_.slots, g0_.free, g0_.at_, g0_.many] :: OwS true 111 4 ring_slot.c g0_.slots a0.slots :: OwS true 3 1 eI g0_.free a0.free :: OwM vS vI g0_.at_ a0.at_ :: OwS true 3 1 eI g0_.many a0.many :: F)
    (Ret fun u R' L' => u = vB r ∧ R' = R ∧ L' = Bk b0_ 109 [vI a0.lists, g0_.slots, g0_.free, g0_.at_, g0_.many] :: OwS true 111 4 ring_slot.c g0_.slots a0.slots :: OwS true 3 1 eI g0_.free a0.free :: OwM vS vI g0_.at_ a0.at_ :: OwS true 3 1 eI g0_.many a0.many :: F) := by
  unfold ring_Rings_is at hm
  refine co_ofN (N := 19) Try.func69 rfl rfl ?_
  refine c_seq ?_
  refine c_reg ?_
  refine r_u (o_as rfl) ?_
  refine r_nil ?_
  refine x_seq ?_
  refine c_seq ?_
  refine c_reg ?_
  refine r_u (o_mv rfl) ?_
  refine r_u (o_bin rfl rfl (bP_nep Try.underlying88)) ?_
  refine r_u (o_mv rfl) ?_
  refine r_s (s_y rfl rfl rfl (o_mv rfl)) ?_
  refine r_s (s_y rfl rfl rfl (o_bin rfl rfl (bI_ge a1 0))) ?_
  refine r_u (o_pt rfl rfl rfl) ?_
  refine r_u (o_mv rfl) ?_
  refine r_s (s_gt rfl rfl fun g => o_mv rfl) ?_
  refine r_s (s_gt rfl rfl fun g => o_mv rfl) ?_
  refine r_s (s_gt rfl rfl fun g => o_nc (evg rfl g)) ?_
  refine r_s (s_gt rfl rfl fun g => o_fa fa109_0 (evg rfl g)) ?_
  refine r_s (s_gt rfl rfl fun g => o_ld 0 sc3 (evg rfl g) rfl rfl) ?_
  refine r_s (s_gt rfl rfl fun g => o_bin (evg rfl g) (evg rfl g) (bI_lt a1 a0.lists)) ?_
  refine r_u (o_and rfl rfl) ?_
  refine r_u (o_as rfl) ?_
  refine r_nil ?_
  refine x_seq ?_
  refine c_ret ?_
  subst hm
  exact x_r1 rfl (rv_t rfl) (Le.refl _) ⟨_, rfl, rfl, rfl, rfl⟩

def ring_Rings_link (a0 : ring_Rings) (a1 : Int) (a2 : Int) : Option ring_Rings :=
  (gi a0.slots a1).bind fun x4 => (gi a0.slots a2).bind fun x6 => (gi (ls a0.slots a1 (⟨x4.key, a2, x4.prev, x4.next⟩ : ring_slot)) a1).bind fun x8 => (gi (ls (ls a0.slots a1 (⟨x4.key, a2, x4.prev, x4.next⟩ : ring_slot)) a1 (⟨x8.key, x8.list, a2, x8.next⟩ : ring_slot)) a1).bind fun x10 => (gi (ls (ls (ls a0.slots a1 (⟨x4.key, a2, x4.prev, x4.next⟩ : ring_slot)) a1 (⟨x8.key, x8.list, a2, x8.next⟩ : ring_slot)) a1 (⟨x10.key, x10.list, x10.prev, x6.next⟩ : ring_slot)) a1).bind fun x12 => (gi (ls (ls (ls a0.slots a1 (⟨x4.key, a2, x4.prev, x4.next⟩ : ring_slot)) a1 (⟨x8.key, x8.list, a2, x8.next⟩ : ring_slot)) a1 (⟨x10.key, x10.list, x10.prev, x6.next⟩ : ring_slot)) x12.next).bind fun x14 => (gi (ls (ls (ls (ls a0.slots a1 (⟨x4.key, a2, x4.prev, x4.next⟩ : ring_slot)) a1 (⟨x8.key, x8.list, a2, x8.next⟩ : ring_slot)) a1 (⟨x10.key, x10.list, x10.prev, x6.next⟩ : ring_slot)) x12.next (⟨x14.key, x14.list, a1, x14.next⟩ : ring_slot)) a2).bind fun x16 => (gi a0.many a2).bind fun x18 => some (⟨a0.lists, ls (ls (ls (ls (ls a0.slots a1 (⟨x4.key, a2, x4.prev, x4.next⟩ : ring_slot)) a1 (⟨x8.key, x8.list, a2, x8.next⟩ : ring_slot)) a1 (⟨x10.key, x10.list, x10.prev, x6.next⟩ : ring_slot)) x12.next (⟨x14.key, x14.list, a1, x14.next⟩ : ring_slot)) a2 (⟨x16.key, x16.list, x16.prev, a1⟩ : ring_slot), a0.free, a0.at_, ls a0.many a2 (i64 (x18 + 1))⟩ : ring_Rings)
theorem ring_Rings_link.ok {G R F} (b0_ : Nat) (a0 : ring_Rings) (g0_ : ring_Rings.G) (a1 : Int) (a2 : Int) (r : ring_Rings) (hm : ring_Rings_link a0 a1 a2 = some r) : CO Try.prog 70 [pt b0_ 0, vI a1, vI a2] G R (Bk b0_ 109 [vI a0.lists, g0_.slots, g0_.free, g0_.at_, g0_.many] :: OwS true 111 4 ring_slot.c g0_.slots a0.slots :: OwS true 3 1 eI g0_.free a0.free :: OwM vS vI g0_.at_ a0.at_ :: OwS true 3 1 eI g0_.many a0.many :: F)
    (Ret fun u R' L' => u = .tuple #[] ∧ R' = R ∧ L' = Bk b0_ 109 [vI r.lists, g0_.slots, g0_.free, g0_.at_, g0_.many] :: OwS true 111 4 ring_slot.c g0_.slots r.slots :: OwS true 3 1 eI g0_.free r.free :: OwM vS vI g0_.at_ r.at_ :: OwS true 3 1 eI g0_.many r.many :: F) := by
  unfold ring_Rings_link at hm
  refine co_ofN (N := 60) Try.func70 rfl rfl ?_
  refine c_seq ?_
  refine c_reg ?_
  refine r_u (o_mv rfl) ?_
  refine r_u (o_nc rfl) ?_
  refine r_u (o_fa fa109_1 rfl) ?_
  refine r_u (o_ld 0 sc107 rfl rfl rfl) ?_
  refine r_u (o_mv rfl) ?_
  obtain ⟨x4, hx4, hm5⟩ := bs hm
  clear hm
  refine r_u (o_ixO 1 Try.underlying107 (fun _ => by kernel_rfl) rfl rfl rfl hx4) ?_
  refine r_u (o_as rfl) ?_
  refine r_nil ?_
  refine x_seq ?_
  refine c_seq ?_
  refine c_reg ?_
  refine r_u (o_mv rfl) ?_
  refine r_u (o_mv rfl) ?_
  refine r_u (o_mv rfl) ?_
  refine r_u (o_mv rfl) ?_
  refine r_u (o_mv rfl) ?_
  refine r_u (o_mv rfl) ?_
  refine r_u (o_nc rfl) ?_
  refine r_u (o_fa fa109_1 rfl) ?_
  refine r_u (o_ld 0 sc107 rfl rfl rfl) ?_
  refine r_u (o_mv rfl) ?_
  obtain ⟨x6, hx6, hm7⟩ := bs hm5
  clear hm5
  refine r_u (o_ixO 1 Try.underlying107 (fun _ => by kernel_rfl) rfl rfl rfl hx6) ?_
  refine r_u (o_fa fa111_3 rfl) ?_
  refine r_u (o_ldO 1 3 sc3 rfl rfl hx6 rfl rfl) ?_
  refine r_u (o_nc rfl) ?_
  refine r_u (o_fa fa111_1 rfl) ?_
  refine rl_st (fun _ h => mv1 h) ?_
  refine r_u0 (o_stO (c' := (⟨x4.key, a2, x4.prev, x4.next⟩ : ring_slot)) 1 sc3 rfl rfl rfl hx4 rfl rfl rfl) ?_
  refine r_u (o_nc rfl) ?_
  refine r_u (o_fa fa111_2 rfl) ?_
  obtain ⟨x8, hx8, hm9⟩ := bs hm7
  clear hm7
  refine r_u0 (o_stO (c' := (⟨x8.key, x8.list, a2, x8.next⟩ : ring_slot)) 2 sc3 rfl rfl rfl hx8 rfl rfl rfl) ?_
  refine r_u (o_nc rfl) ?_
  refine r_u (o_fa fa111_3 rfl) ?_
  obtain ⟨x10, hx10, hm11⟩ := bs hm9
  clear hm9
  refine r_u0 (o_stO (c' := (⟨x10.key, x10.list, x10.prev, x6.next⟩ : ring_slot)) 3 sc3 rfl rfl rfl hx10 rfl rfl rfl) ?_
  refine r_nil ?_
  refine x_seq ?_
  refine c_seq ?_
  obtain ⟨x12, hx12, hm13⟩ := bs hm11
  clear hm11
  obtain ⟨x14, hx14, hm15⟩ := bs hm13
  clear hm13
  obtain ⟨x16, hx16, hm17⟩ := bs hm15
  clear hm15
  refine c_any mixed (effs := [17, 20]) (V := []) ?_
  refine stage_ext [(0, pt b0_ 0), (1, pt b0_ 0), (2, pt b0_ 1), (3, g0_.slots), (4, pt (sb g0_.slots) (so g0_.slots + a1.toNat * 4)), (5, pt (sb g0_.slots) (so g0_.slots + a1.toNat * 4)), (6, pt (sb g0_.slots) (so g0_.slots + a1.toNat * 4 + 3)), (7, vI x12.next), (8, pt b0_ 0), (9, pt b0_ 0), (10, pt b0_ 1), (11, g0_.slots), (12, vI a2), (13, vI a1), (14, vI a1), (15, pt (sb g0_.slots) (so g0_.slots + x12.next.toNat * 4)), (16, pt (sb g0_.slots) (so g0_.slots + x12.next.toNat * 4 + 2))] rfl ?_
  refine stage rfl rfl rfl rfl [0, 1, 3, 7, 0, 16, 48, 112, 0, 256, 768, 1792, 0, 0, 0, 12287, 45055, 110591, 262143, 524287, 1048575] [0, 1, 2, 3, 4, 5, 6, 7, 8, 9, 10, 11, 12, 13, 14, 15, 16] [17] rfl rfl rfl (qc rfl rfl (s_u (o_mv rfl)) (qc rfl rfl (s_u (o_nc rfl)) (qc rfl rfl (s_u (o_fa fa109_1 rfl)) (qc rfl rfl (s_u (o_ld 1 sc107 rfl rfl rfl)) (qc rfl rfl (s_u (o_mv rfl)) (qc rfl rfl (s_u (o_nc rfl)) (qc rfl rfl (s_u (o_fa fa111_3 rfl)) (qc rfl rfl (s_u (o_ldO 0 3 sc3 rfl rfl hx12 rfl rfl)) (qc rfl rfl (s_u (o_mv rfl)) (qc rfl rfl (s_u (o_nc rfl)) (qc rfl rfl (s_u (o_fa fa109_1 rfl)) (qc rfl rfl (s_u (o_ld 1 sc107 rfl rfl rfl)) (qc rfl rfl (s_u (o_mv rfl)) (qc rfl rfl (s_u (o_mv rfl)) (qc rfl rfl (s_u (o_mv rfl)) (qc rfl rfl (s_u (o_ixO 0 Try.underlying107 (fun _ => by kernel_rfl) rfl rfl rfl hx14)) (qc rfl rfl (s_u (o_fa fa111_2 rfl)) qn))))))))))))))))) ?_ (fun h => absurd h (by decide))
  refine ec (eo_u rfl (s_u (o_stO (c' := (⟨x14.key, x14.list, a1, x14.next⟩ : ring_slot)) 2 sc3 rfl rfl rfl hx14 rfl rfl rfl)) (Le.refl _) ?_) en
  refine stage_ext [(18, pt (sb g0_.slots) (so g0_.slots + a2.toNat * 4)), (19, pt (sb g0_.slots) (so g0_.slots + a2.toNat * 4 + 3))] rfl ?_
  refine stage rfl rfl rfl rfl [0, 1, 3, 7, 0, 16, 48, 112, 0, 256, 768, 1792, 0, 0, 0, 12287, 45055, 110591, 262143, 524287, 1048575] [12, 14, 18, 19] [20] rfl rfl rfl (qc rfl rfl (s_u (o_mv rfl)) (qc rfl rfl (s_u (o_mv rfl)) (qc rfl rfl (s_u (o_ixO 0 Try.underlying107 (fun _ => by kernel_rfl) rfl rfl rfl hx16)) (qc rfl rfl (s_u (o_fa fa111_3 rfl)) qn)))) ?_ (fun h => absurd h (by decide))
  refine ec (eo_u rfl (s_u (o_stO (c' := (⟨x16.key, x16.list, x16.prev, a1⟩ : ring_slot)) 3 sc3 rfl rfl rfl hx16 rfl rfl rfl)) (Le.refl _) ?_) en
  refine stage rfl rfl rfl rfl [0, 1, 3, 7, 0, 16, 48, 112, 0, 256, 768, 1792, 0, 0, 0, 12287, 45055, 110591, 262143, 524287, 1048575] [] [] rfl rfl rfl qn en ?_
  intro _
  refine ex_sub (E' := [(0, pt b0_ 0), (2, vI a2)]) ⟨rfl, rfl, trivial⟩ ?_
  refine x_seq ?_
  refine c_reg ?_
  refine r_u (o_mv rfl) ?_
  refine r_u (o_nc rfl) ?_
  refine r_u (o_fa fa109_4 rfl) ?_
  refine r_u (o_ld 1 sc106 rfl rfl rfl) ?_
  refine r_u (o_mv rfl) ?_
  obtain ⟨x18, hx18, hm19⟩ := bs hm17
  clear hm17
  refine r_u (o_ixO 4 Try.underlying106 (fun _ => by kernel_rfl) rfl rfl rfl hx18) ?_
  refine r_u (o_ldO0 4 sc3 rfl rfl hx18 rfl rfl) ?_
  refine r_u (o_bin rfl rfl (bI_add x18 1)) ?_
  refine r_u (o_ixO 4 Try.underlying106 (fun _ => by kernel_rfl) rfl rfl rfl hx18) ?_
  refine rl_st (fun _ h => mv4 h) ?_
  refine r_u0 (o_stO0 (c' := i64 (x18 + 1)) sc3 rfl rfl rfl hx18 rfl rfl rfl) ?_
  refine r_nil ?_
  refine x_end ?_
  obtain rfl := Option.some.inj hm19
  refine ex_st (fun _ h => st_pk 5 [2, 1, 3, 4, 0] (by decide) h) ?_
  exact x_r0 rfl (Le.refl _) ⟨_, rfl, rfl, rfl, rfl⟩

def ring_Rings_Front (a0 : ring_Rings) (a1 : Int) (a2 : Str) : Option (Bool × ring_Rings) :=
  if (!(ring_Rings_is a0 a1) || decide (64 < (a2.length : Int))) then some (false, a0) else if (mget a0.at_ a2).isSome then (ring_Rings_cut a0 ((mget a0.at_ a2).getD (0 : Int))).bind fun r8 => (ring_Rings_link r8 ((mget a0.at_ a2).getD (0 : Int)) a1).bind fun r10 => some (true, r10) else if ((a0.free.length : Int) == 0) then some (false, a0) else (gi a0.free (i64 ((a0.free.length : Int) - 1))).bind fun x14 => (sl a0.free 0 (i64 ((a0.free.length : Int) - 1))).bind fun l16 => (gi a0.slots x14).bind fun x18 => (ring_Rings_link (⟨a0.lists, ls a0.slots x14 (⟨a2, x18.list, x18.prev, x18.next⟩ : ring_slot), l16, mput a0.at_ a2 x14, a0.many⟩ : ring_Rings) x14 a1).bind fun r20 => some (true, r20)
theorem ring_Rings_Front.ok {G R F} (b0_ : Nat) (a0 : ring_Rings) (g0_ : ring_Rings.G) (a1 : Int) (a2 : Str) (r : Bool × ring_Rings) (hm : ring_Rings_Front a0 a1 a2 = some r) : CO Try.prog 55 [pt b0_ 0, vI a1, vS a2] G R (Bk b0_ 109 [vI a0.lists, g0_.slots, g0_.free, g0_.at_, g0_.many] :: OwS true 111 4 ring_slot.c g0_.slots a0.slots :: OwS true 3 1 eI g0_.free a0.free :: OwM vS vI g0_.at_ a0.at_ :: OwS true 3 1 eI g0_.many a0.many :: F)
    (Ret fun u R' L' => ∃ (q0 : ring_Rings.G), u = vB r.1 ∧ R' = R ∧ L' = Bk b0_ 109 [vI r.2.lists, q0.slots, q0.free, q0.at_, q0.many] :: OwS true 111 4 ring_slot.c q0.slots r.2.slots :: OwS true 3 1 eI q0.free r.2.free :: OwM vS vI q0.at_ r.2.at_ :: OwS true 3 1 eI q0.many r.2.many :: F) := by
  unfold ring_Rings_Front at hm
  refine co_ofN (N := 80) Try.func55 rfl rfl ?_
  refine c_seq ?_
  refine c_reg ?_
  refine r_u (o_as rfl) ?_
  refine r_nil ?_
  refine x_seq ?_
  refine c_seq ?_
  refine c_seq ?_
  refine c_reg ?_
  refine r_u (o_mv rfl) ?_
  refine r_u (o_mv rfl) ?_
  refine r_c (s_w (o_call ca69 rfl (ring_Rings_is.ok b0_ a0 g0_ a1 _ rfl))) ?_
  refine r_u (o_not rfl) ?_
  refine r_u (o_mv rfl) ?_
  refine r_s (s_gf rfl rfl fun g => o_mv rfl) ?_
  refine r_s (s_gf rfl rfl fun g => o_lenS Try.underlying9 (evg rfl g)) ?_
  refine r_s (s_gf rfl rfl fun g => o_bin (evg rfl g) rfl (bI_gt (a2.length : Int) 64)) ?_
  refine r_u (o_or rfl rfl) ?_
  refine r_nil ?_
  refine x_seq ?_
  refine c_if (b := (!(ring_Rings_is a0 a1) || decide (64 < (a2.length : Int)))) rfl (fun h4 => ?_) fun h4 => ?_
  · have hm5 := ift hm h4
    clear hm
    refine c_seq ?_
    refine c_reg ?_
    refine r_u (o_as rfl) ?_
    refine r_nil ?_
    refine x_seq ?_
    refine c_ret ?_
    obtain rfl := Option.some.inj hm5
    exact x_r1 rfl (rv_t rfl) (Le.refl _) ⟨_, rfl, g0_, rfl, rfl, rfl⟩
  · have hm5 := iff_ hm h4
    clear hm
    refine c_skip ?_
    refine x_seq ?_
    refine c_seq ?_
    refine c_seq ?_
    refine c_reg ?_
    refine r_u (o_mv rfl) ?_
    refine r_u (o_nc rfl) ?_
    refine r_u (o_fa fa109_3 rfl) ?_
    refine r_u (o_ld 0 sc105 rfl rfl rfl) ?_
    refine r_u (o_mv rfl) ?_
    refine r_u (o_lk (kv := vS) (vv := vI) (key := a2) (z0 := (0 : Int)) 3 Try.underlying105 (kok_S Try.underlying9) (fun _ => by kernel_rfl) rfl rfl rfl) ?_
    refine r_u (o_mv rfl) ?_
    refine r_u (o_ext rfl rfl) ?_
    refine r_u (o_ext rfl rfl) ?_
    refine r_u (o_as rfl) ?_
    refine r_u (o_as rfl) ?_
    refine r_nil ?_
    refine x_seq ?_
    refine c_seq ?_
    refine c_reg ?_
    refine r_u (o_mv rfl) ?_
    refine r_nil ?_
    refine x_seq ?_
    refine c_if (b := (mget a0.at_ a2).isSome) rfl (fun h6 => ?_) fun h6 => ?_
    · have hm7 := ift hm5 h6
      clear hm5
      refine c_seq ?_
      refine c_reg ?_
      refine r_u (o_mv rfl) ?_
      refine r_u (o_mv rfl) ?_
      obtain ⟨r8, hr8, hm9⟩ := bs hm7
      clear hm7
      refine r_c (s_w (o_call ca53 rfl (ring_Rings_cut.ok b0_ a0 g0_ ((mget a0.at_ a2).getD (0 : Int)) r8 hr8))) ?_
      refine r_nil ?_
      refine x_seq ?_
      refine c_seq ?_
      refine c_reg ?_
      refine r_u (o_mv rfl) ?_
      refine r_u (o_mv rfl) ?_
      refine r_u (o_mv rfl) ?_
      obtain ⟨r10, hr10, hm11⟩ := bs hm9
      clear hm9
      refine r_c (s_w (o_call ca70 rfl (ring_Rings_link.ok b0_ r8 g0_ ((mget a0.at_ a2).getD (0 : Int)) a1 r10 hr10))) ?_
      refine r_nil ?_
      refine x_seq ?_
      refine c_seq ?_
      refine c_reg ?_
      refine r_u (o_as rfl) ?_
      refine r_nil ?_
      refine x_seq ?_
      refine c_ret ?_
      obtain rfl := Option.some.inj hm11
      exact x_r1 rfl (rv_t rfl) (Le.refl _) ⟨_, rfl, g0_, rfl, rfl, rfl⟩
    · have hm7 := iff_ hm5 h6
      clear hm5
      refine c_skip ?_
      refine x_seq ?_
      refine c_seq ?_
      refine c_reg ?_
      refine r_u (o_mv rfl) ?_
      refine r_u (o_nc rfl) ?_
      refine r_u (o_fa fa109_2 rfl) ?_
      refine r_u (o_ld 0 sc106 rfl rfl rfl) ?_
      refine r_u (o_lenO 2 Try.underlying106 rfl rfl) ?_
      refine r_u (o_as rfl) ?_
      refine r_nil ?_
      refine x_seq ?_
      refine c_seq ?_
      refine c_seq ?_
      refine c_reg ?_
      refine r_u (o_mv rfl) ?_
      refine r_u (o_bin rfl rfl (bI_eq (a0.free.length : Int) 0)) ?_
      refine r_nil ?_
      refine x_seq ?_
      refine c_if (b := ((a0.free.length : Int) == 0)) rfl (fun h12 => ?_) fun h12 => ?_
      · have hm13 := ift hm7 h12
        clear hm7
        refine c_seq ?_
        refine c_reg ?_
        refine r_u (o_as rfl) ?_
        refine r_nil ?_
        refine x_seq ?_
        refine c_ret ?_
        obtain rfl := Option.some.inj hm13
        exact x_r1 rfl (rv_t rfl) (Le.refl _) ⟨_, rfl, g0_, rfl, rfl, rfl⟩
      · have hm13 := iff_ hm7 h12
        clear hm7
        refine c_skip ?_
        refine x_seq ?_
        refine c_seq ?_
        refine c_reg ?_
        refine r_u (o_mv rfl) ?_
        refine r_u (o_nc rfl) ?_
        refine r_u (o_fa fa109_2 rfl) ?_
        refine r_u (o_ld 0 sc106 rfl rfl rfl) ?_
        refine r_u (o_mv rfl) ?_
        refine r_u (o_bin rfl rfl (bI_sub (a0.free.length : Int) 1)) ?_
        obtain ⟨x14, hx14, hm15⟩ := bs hm13
        clear hm13
        refine r_u (o_ixO 2 Try.underlying106 (fun _ => by kernel_rfl) rfl rfl rfl hx14) ?_
        refine r_u (o_ldO0 2 sc3 rfl rfl hx14 rfl rfl) ?_
        refine r_u (o_as rfl) ?_
        refine r_nil ?_
        refine x_seq ?_
        refine c_seq ?_
        refine c_reg ?_
        refine r_u (o_mv rfl) ?_
        refine r_u (o_mv rfl) ?_
        refine r_u (o_nc rfl) ?_
        refine r_u (o_fa fa109_2 rfl) ?_
        refine r_u (o_ld 0 sc106 rfl rfl rfl) ?_
        refine r_u (o_mv rfl) ?_
        refine r_u (o_bin rfl rfl (bI_sub (a0.free.length : Int) 1)) ?_
        obtain ⟨l16, hl16, hm17⟩ := bs hm15
        clear hm15
        refine rl_st (fun _ h => mv2 h) ?_
        refine r_u (o_slO Try.underlying106 (fun _ => by kernel_rfl) rfl rfl rfl hl16) ?_
        refine r_u (o_nc rfl) ?_
        refine r_u (o_fa fa109_2 rfl) ?_
        refine rl_st (fun _ h => mv1 h) ?_
        refine r_u0 (ou_if (one_o 1 rfl) fun ho0 => o_st sc106 rfl rfl rfl ho0 rfl rfl) ?_
        refine r_nil ?_
        refine x_seq ?_
        refine c_seq ?_
        refine c_reg ?_
        refine r_u (o_mv rfl) ?_
        refine r_u (o_nc rfl) ?_
        refine r_u (o_fa fa109_1 rfl) ?_
        refine r_u (o_ld 0 sc107 rfl rfl rfl) ?_
        refine r_u (o_mv rfl) ?_
        refine r_u (o_mv rfl) ?_
        obtain ⟨x18, hx18, hm19⟩ := bs hm17
        clear hm17
        refine r_u (o_ixO 2 Try.underlying107 (fun _ => by kernel_rfl) rfl rfl rfl hx18) ?_
        refine r_u (o_fa fa111_0 rfl) ?_
        refine rl_st (fun _ h => mv2 h) ?_
        refine r_u0 (o_stO0 (c' := (⟨a2, x18.list, x18.prev, x18.next⟩ : ring_slot)) sc9 rfl rfl rfl hx18 rfl rfl rfl) ?_
        refine r_nil ?_
        refine x_seq ?_
        refine c_seq ?_
        refine c_reg ?_
        refine r_u (o_mv rfl) ?_
        refine r_u (o_nc rfl) ?_
        refine r_u (o_fa fa109_3 rfl) ?_
        refine r_u (o_ld 1 sc105 rfl rfl rfl) ?_
        refine r_u (o_mv rfl) ?_
        refine r_u (o_mv rfl) ?_
        refine rl_st (fun _ h => mv3 h) ?_
        refine r_u0 (o_mu (kv := vS) (vv := vI) (key := a2) (val := x14) Try.underlying105 (kok_S Try.underlying9) rfl rfl rfl rfl) ?_
        refine r_nil ?_
        refine x_seq ?_
        refine c_seq ?_
        refine c_reg ?_
        refine r_u (o_mv rfl) ?_
        refine r_u (o_mv rfl) ?_
        refine r_u (o_mv rfl) ?_
        obtain ⟨r20, hr20, hm21⟩ := bs hm19
        clear hm19
        refine rl_st (fun _ h => mv4 (mv3 (mv4 (mv1 (mv4 h))))) ?_
        refine r_c (s_w (o_call ca70 rfl (ring_Rings_link.ok b0_ (⟨a0.lists, ls a0.slots x14 (⟨a2, x18.list, x18.prev, x18.next⟩ : ring_slot), l16, mput a0.at_ a2 x14, a0.many⟩ : ring_Rings) (⟨g0_.slots, (sh g0_.free (i64 ((a0.free.length : Int) - 1)).toNat), g0_.at_, g0_.many⟩ : ring_Rings.G) x14 a1 r20 hr20))) ?_
        refine r_nil ?_
        refine x_seq ?_
        refine c_seq ?_
        refine c_reg ?_
        refine r_u (o_as rfl) ?_
        refine r_nil ?_
        refine x_seq ?_
        refine c_ret ?_
        obtain rfl := Option.some.inj hm21
        exact x_r1 rfl (rv_t rfl) (Le.refl _) ⟨_, rfl, (⟨g0_.slots, (sh g0_.free (i64 ((a0.free.length : Int) - 1)).toNat), g0_.at_, g0_.many⟩ : ring_Rings.G), rfl, rfl, rfl⟩

def arc_Arc_Touch (a0 : arc_Arc) (a1 : Str) : Option (Bool × arc_Arc) :=
  (arc_Arc_Has a0 a1).bind fun r3 => if !r3 then some (false, a0) else om a0.r (none) fun x7 => (ring_Rings_Front x7 1 a1).bind fun r15 => some (r15.1, (⟨a0.most, a0.target, (some r15.2)⟩ : arc_Arc))
theorem arc_Arc_Touch.ok {G R F} (b0_ : Nat) (a0 : arc_Arc) (g0_ : arc_Arc.G) (a1 : Str) (r : Bool × arc_Arc) (hm : arc_Arc_Touch a0 a1 = some r) : CO Try.prog 43 [pt b0_ 0, vS a1] G R (Bk b0_ 92 [vI a0.most, vI a0.target, g0_.r.1] :: rO (ring_Rings.op g0_.r.2) g0_.r.1 a0.r :: F)
    (Ret fun u R' L' => ∃ (q0 : arc_Arc.G), u = vB r.1 ∧ R' = R ∧ L' = Bk b0_ 92 [vI r.2.most, vI r.2.target, q0.r.1] :: rO (ring_Rings.op q0.r.2) q0.r.1 r.2.r :: F) := by
  obtain ⟨⟨pv1, g2⟩⟩ := g0_
  unfold arc_Arc_Touch at hm
  refine co_ofN (N := 15) Try.func43 rfl rfl ?_
  refine c_seq ?_
  refine c_reg ?_
  refine r_u (o_as rfl) ?_
  refine r_nil ?_
  refine x_seq ?_
  refine c_seq ?_
  refine c_seq ?_
  refine c_reg ?_
  refine r_u (o_mv rfl) ?_
  refine r_u (o_mv rfl) ?_
  obtain ⟨r3, hr3, hm4⟩ := bs hm
  clear hm
  refine r_c (s_w (o_call ca39 rfl (arc_Arc_Has.ok b0_ a0 (⟨(pv1, g2)⟩ : arc_Arc.G) a1 r3 hr3))) ?_
  refine r_u (o_not rfl) ?_
  refine r_nil ?_
  refine x_seq ?_
  refine c_if (b := !r3) rfl (fun h5 => ?_) fun h5 => ?_
  · have hm6 := ift hm4 h5
    clear hm4
    refine c_seq ?_
    refine c_reg ?_
    refine r_u (o_as rfl) ?_
    refine r_nil ?_
    refine x_seq ?_
    refine c_ret ?_
    obtain rfl := Option.some.inj hm6
    exact x_r1 rfl (rv_t rfl) (Le.refl _) ⟨_, rfl, (⟨(pv1, g2)⟩ : arc_Arc.G), rfl, rfl, rfl⟩
  · have hm6 := iff_ hm4 h5
    clear hm4
    refine c_skip ?_
    refine x_seq ?_
    refine c_seq ?_
    refine cd_st (fun _ h => mv1 h) ?_
    refine cd_opt (fun ho9 => ?_) (fun x7 b8 ho9 => ?_)
    · rintro rfl
      have hm10 := om_n hm6 ho9
      clear hm6
      cases hm10
    · rintro rfl
      have hm10 := om_s hm6 ho9
      clear hm6
      refine cd_st (fun _ h => st_star_o h) ?_
      refine c_reg ?_
      refine r_u (o_mv rfl) ?_
      refine r_u (o_nc rfl) ?_
      refine r_u (o_fa fa92_2 rfl) ?_
      refine r_u (o_ld 5 sc88 rfl rfl rfl) ?_
      refine r_u (o_mv rfl) ?_
      obtain ⟨r15, hr15, hm21⟩ := bs hm10
      clear hm10
      refine r_sw (s_w (o_call ca55 rfl (ring_Rings_Front.ok b8 x7 g2 1 a1 r15 hr15))) ?_
      rintro _ R _ _ ⟨g16, rfl, rfl, rfl⟩
      refine r_u (o_as rfl) ?_
      refine r_nil ?_
      refine x_seq ?_
      refine c_ret ?_
      refine ex_st (fun _ h => st_some (f := ring_Rings.op g16) (a := r15.2) (st_star_f (A := ring_Rings.fl b8 r15.2 g16) h)) ?_
      obtain rfl := Option.some.inj hm21
      refine ex_st (fun _ h => st_pk 2 [1, 0] (by decide) h) ?_
      exact x_r1 rfl (rv_t rfl) (Le.refl _) ⟨_, rfl, (⟨(pt b8 0, g16)⟩ : arc_Arc.G), rfl, rfl, rfl⟩

def ring_Rings_Len (a0 : ring_Rings) (a1 : Int) : Option Int :=
  if !(ring_Rings_is a0 a1) then some 0 else (gi a0.many a1).bind fun x6 => some x6
theorem ring_Rings_Len.ok {G R F} (b0_ : Nat) (a0 : ring_Rings) (g0_ : ring_Rings.G) (a1 : Int) (r : Int) (hm : ring_Rings_Len a0 a1 = some r) : CO Try.prog 56 [pt b0_ 0, vI a1] G R (Bk b0_ 109 [vI a0.lists, g0_.slots, g0_.free, g0_.at_, g0_.many] :: OwS true 111 4 ring_slot.c g0_.slots a0.slots :: OwS true 3 1 eI g0_.free a0.free :: OwM vS vI g0_.at_ a0.at_ :: OwS true 3 1 eI g0_.many a0.many :: F)
    (Ret fun u R' L' => u = vI r ∧ R' = R ∧ L' = Bk b0_ 109 [vI a0.lists, g0_.slots, g0_.free, g0_.at_, g0_.many] :: OwS true 111 4 ring_slot.c g0_.slots a0.slots :: OwS true 3 1 eI g0_.free a0.free :: OwM vS vI g0_.at_ a0.at_ :: OwS true 3 1 eI g0_.many a0.many :: F) := by
  unfold ring_Rings_Len at hm
  refine co_ofN (N := 16) Try.func56 rfl rfl ?_
  refine c_seq ?_
  refine c_reg ?_
  refine r_u (o_as rfl) ?_
  refine r_nil ?_
  refine x_seq ?_
  refine c_seq ?_
  refine c_seq ?_
  refine c_reg ?_
  refine r_u (o_mv rfl) ?_
  refine r_u (o_mv rfl) ?_
  refine r_c (s_w (o_call ca69 rfl (ring_Rings_is.ok b0_ a0 g0_ a1 _ rfl))) ?_
  refine r_u (o_not rfl) ?_
  refine r_nil ?_
  refine x_seq ?_
  refine c_if (b := !(ring_Rings_is a0 a1)) rfl (fun h4 => ?_) fun h4 => ?_
  · have hm5 := ift hm h4
    clear hm
    refine c_seq ?_
    refine c_reg ?_
    refine r_u (o_as rfl) ?_
    refine r_nil ?_
    refine x_seq ?_
    refine c_ret ?_
    obtain rfl := Option.some.inj hm5
    exact x_r1 rfl (rv_t rfl) (Le.refl _) ⟨_, rfl, rfl, rfl, rfl⟩
  · have hm5 := iff_ hm h4
    clear hm
    refine c_skip ?_
    refine x_seq ?_
    refine c_seq ?_
    refine c_reg ?_
    refine r_u (o_mv rfl) ?_
    refine r_u (o_nc rfl) ?_
    refine r_u (o_fa fa109_4 rfl) ?_
    refine r_u (o_ld 0 sc106 rfl rfl rfl) ?_
    refine r_u (o_mv rfl) ?_
    obtain ⟨x6, hx6, hm7⟩ := bs hm5
    clear hm5
    refine r_u (o_ixO 4 Try.underlying106 (fun _ => by kernel_rfl) rfl rfl rfl hx6) ?_
    refine r_u (o_ldO0 4 sc3 rfl rfl hx6 rfl rfl) ?_
    refine r_u (o_as rfl) ?_
    refine r_nil ?_
    refine x_seq ?_
    refine c_ret ?_
    obtain rfl := Option.some.inj hm7
    exact x_r1 rfl (rv_t rfl) (Le.refl _) ⟨_, rfl, rfl, rfl, rfl⟩

def tiny_Parts (a0 : Int) : api_Parts :=
  (⟨(if 1 < (i64 (a0.tdiv 8)) then i64 (a0.tdiv 8) else 1), i64 ((i64 ((i64 (a0 - (if 1 < (i64 (a0.tdiv 8)) then i64 (a0.tdiv 8) else 1))) * 4)).tdiv 5)⟩ : api_Parts)
theorem tiny_Parts.ok {G R F} (a0 : Int) (r : api_Parts) (hm : tiny_Parts a0 = r) : CO Try.prog 57 [vI a0] G R (F)
    (Ret fun u R' L' => u = .agg (api_Parts.c r).toArray ∧ R' = R ∧ L' = F) := by
  unfold tiny_Parts at hm
  refine co_ofN (N := 14) Try.func57 rfl rfl ?_
  refine c_seq ?_
  refine c_reg ?_
  refine r_new (o_al ze121) fun b0 => ?_
  refine r_nil ?_
  refine x_seq ?_
  refine c_seq ?_
  refine c_reg ?_
  refine r_u (o_mv rfl) ?_
  refine r_u (o_bin rfl rfl (bI_quo a0 8 (by decide))) ?_
  refine r_u (o_maxI rfl rfl) ?_
  refine r_u (o_as rfl) ?_
  refine r_nil ?_
  refine x_seq ?_
  refine c_seq ?_
  refine c_reg ?_
  refine r_u (o_mv rfl) ?_
  refine r_u (o_mv rfl) ?_
  refine r_u (o_mv rfl) ?_
  refine r_u (o_bin rfl rfl (bI_sub a0 (if 1 < (i64 (a0.tdiv 8)) then i64 (a0.tdiv 8) else 1))) ?_
  refine r_u (o_bin rfl rfl (bI_mul (i64 (a0 - (if 1 < (i64 (a0.tdiv 8)) then i64 (a0.tdiv 8) else 1))) 4)) ?_
  refine r_u (o_bin rfl rfl (bI_quo (i64 ((i64 (a0 - (if 1 < (i64 (a0.tdiv 8)) then i64 (a0.tdiv 8) else 1))) * 4)) 5 (by decide))) ?_
  refine r_u (o_bld [vI (if 1 < (i64 (a0.tdiv 8)) then i64 (a0.tdiv 8) else 1), vI (i64 ((i64 ((i64 (a0 - (if 1 < (i64 (a0.tdiv 8)) then i64 (a0.tdiv 8) else 1))) * 4)).tdiv 5))] rfl (fun _ => by kernel_rfl)) ?_
  refine r_u0 (o_stn ag121 rfl rfl rfl rfl rfl rfl rfl) ?_
  refine r_nil ?_
  refine x_seq ?_
  refine c_ret ?_
  subst hm
  exact x_d1 rfl (rv_n 0 [vI (if 1 < (i64 (a0.tdiv 8)) then i64 (a0.tdiv 8) else 1), vI (i64 ((i64 ((i64 (a0 - (if 1 < (i64 (a0.tdiv 8)) then i64 (a0.tdiv 8) else 1))) * 4)).tdiv 5))] ag121 rfl rfl rfl rfl) (fun _ h => st_pk 1 [] (by decide) h) (Le.refl _) ⟨_, rfl, rfl, rfl, rfl⟩

def ring_Rings_Back (a0 : ring_Rings) (a1 : Int) : Option (Str × Bool) :=
  (ring_Rings_Len a0 a1).bind fun r4 => if (r4 == 0) then some ([], false) else (gi a0.slots a1).bind fun x8 => (gi a0.slots x8.prev).bind fun x10 => some (x10.key, true)
theorem ring_Rings_Back.ok {G R F} (b0_ : Nat) (a0 : ring_Rings) (g0_ : ring_Rings.G) (a1 : Int) (r : Str × Bool) (hm : ring_Rings_Back a0 a1 = some r) : CO Try.prog 58 [pt b0_ 0, vI a1] G R (Bk b0_ 109 [vI a0.lists, g0_.slots, g0_.free, g0_.at_, g0_.many] :: OwS true 111 4 ring_slot.c g0_.slots a0.slots :: OwS true 3 1 eI g0_.free a0.free :: OwM vS vI g0_.at_ a0.at_ :: OwS true 3 1 eI g0_.many a0.many :: F)
    (Ret fun u R' L' => u = .tuple #[vS r.1, vB r.2] ∧ R' = R ∧ L' = Bk b0_ 109 [vI a0.lists, g0_.slots, g0_.free, g0_.at_, g0_.many] :: OwS true 111 4 ring_slot.c g0_.slots a0.slots :: OwS true 3 1 eI g0_.free a0.free :: OwM vS vI g0_.at_ a0.at_ :: OwS true 3 1 eI g0_.many a0.many :: F) := by
  unfold ring_Rings_Back at hm
  refine co_ofN (N := 25) Try.func58 rfl rfl ?_
  refine c_seq ?_
  refine c_reg ?_
  refine r_u (o_as rfl) ?_
  refine r_u (o_as rfl) ?_
  refine r_nil ?_
  refine x_seq ?_
  refine c_seq ?_
  refine c_seq ?_
  refine c_reg ?_
  refine r_u (o_mv rfl) ?_
  refine r_u (o_mv rfl) ?_
  obtain ⟨r4, hr4, hm5⟩ := bs hm
  clear hm
  refine r_c (s_w (o_call ca56 rfl (ring_Rings_Len.ok b0_ a0 g0_ a1 r4 hr4))) ?_
  refine r_u (o_bin rfl rfl (bI_eq r4 0)) ?_
  refine r_nil ?_
  refine x_seq ?_
  refine c_if (b := (r4 == 0)) rfl (fun h6 => ?_) fun h6 => ?_
  · have hm7 := ift hm5 h6
    clear hm5
    refine c_seq ?_
    refine c_reg ?_
    refine r_u (o_as rfl) ?_
    refine r_u (o_as rfl) ?_
    refine r_nil ?_
    refine x_seq ?_
    refine c_ret ?_
    obtain rfl := Option.some.inj hm7
    exact x_r2 rfl (rv_t rfl) (rv_t rfl) (Le.refl _) ⟨_, rfl, rfl, rfl, rfl⟩
  · have hm7 := iff_ hm5 h6
    clear hm5
    refine c_skip ?_
    refine x_seq ?_
    refine c_seq ?_
    obtain ⟨x8, hx8, hm9⟩ := bs hm7
    clear hm7
    obtain ⟨x10, hx10, hm11⟩ := bs hm9
    clear hm9
    refine c_any mixed (effs := []) (V := []) ?_
    refine stage_ext [(0, pt b0_ 0), (1, pt b0_ 0), (2, pt b0_ 1), (3, g0_.slots), (4, pt b0_ 0), (5, pt b0_ 0), (6, pt b0_ 1), (7, g0_.slots), (8, vI a1), (9, pt (sb g0_.slots) (so g0_.slots + a1.toNat * 4)), (10, pt (sb g0_.slots) (so g0_.slots + a1.toNat * 4 + 2)), (11, vI x8.prev), (12, pt (sb g0_.slots) (so g0_.slots + x8.prev.toNat * 4)), (13, pt (sb g0_.slots) (so g0_.slots + x8.prev.toNat * 4)), (14, vS x10.key), (15, vS x10.key), (16, vB true)] rfl ?_
    refine stage rfl rfl rfl rfl [0, 1, 3, 7, 0, 16, 48, 112, 0, 496, 1008, 2032, 4095, 8191, 16383, 32767, 65535] [0, 1, 2, 3, 4, 5, 6, 7, 8, 9, 10, 11, 12, 13, 14, 15, 16] [] rfl rfl rfl (qc rfl rfl (s_u (o_mv rfl)) (qc rfl rfl (s_u (o_nc rfl)) (qc rfl rfl (s_u (o_fa fa109_1 rfl)) (qc rfl rfl (s_u (o_ld 0 sc107 rfl rfl rfl)) (qc rfl rfl (s_u (o_mv rfl)) (qc rfl rfl (s_u (o_nc rfl)) (qc rfl rfl (s_u (o_fa fa109_1 rfl)) (qc rfl rfl (s_u (o_ld 0 sc107 rfl rfl rfl)) (qc rfl rfl (s_u (o_mv rfl)) (qc rfl rfl (s_u (o_ixO 1 Try.underlying107 (fun _ => by kernel_rfl) rfl rfl rfl hx8)) (qc rfl rfl (s_u (o_fa fa111_2 rfl)) (qc rfl rfl (s_u (o_ldO 1 2 sc3 rfl rfl hx8 rfl rfl)) (qc rfl rfl (s_u (o_ixO 1 Try.underlying107 (fun _ => by kernel_rfl) rfl rfl rfl hx10)) (qc rfl rfl (s_u (o_fa fa111_0 rfl)) (qc rfl rfl (s_u (o_ldO0 1 sc9 rfl rfl hx10 rfl rfl)) (qc rfl rfl (s_u (o_as rfl)) (qc rfl rfl (s_u (o_as rfl)) qn))))))))))))))))) en ?_
    intro _
    refine ex_sub (E' := [(4, vS x10.key), (5, vB true)]) ⟨rfl, rfl, trivial⟩ ?_
    refine x_seq ?_
    refine c_ret ?_
    obtain rfl := Option.some.inj hm11
    exact x_r2 rfl (rv_t rfl) (rv_t rfl) (Le.refl _) ⟨_, rfl, rfl, rfl, rfl⟩

def tiny_Tiny_Touch (a0 : tiny_Tiny) (a1 : Str) : Option (Bool × tiny_Tiny) :=
  (tiny_Tiny_Has a0 a1).bind fun r6 => if !r6 then some (false, a0) else om a0.s (none) fun x10 => (sketch_Sketch_Add x10 a1).bind fun r16 => om a0.r (none) fun x18 => (ring_Rings_In x18 a1).bind fun r26 => if (r26.1 == 0) then (ring_Rings_Front x18 0 a1).bind fun r30 => some (r30.1, (⟨a0.most, (some r16), (some r30.2)⟩ : tiny_Tiny)) else (ring_Rings_Front x18 2 a1).bind fun r37 => (ring_Rings_Len r37.2 2).bind fun r44 => if decide (((tiny_Parts a0.most).Protected) < r44) then (ring_Rings_Back r37.2 2).bind fun r48 => (ring_Rings_Front r37.2 1 r48.1).bind fun r50 => some (true, (⟨a0.most, (some r16), (some r50.2)⟩ : tiny_Tiny)) else some (true, (⟨a0.most, (some r16), (some r37.2)⟩ : tiny_Tiny))
theorem tiny_Tiny_Touch.ok {G R F} (b0_ : Nat) (a0 : tiny_Tiny) (g0_ : tiny_Tiny.G) (a1 : Str) (r : Bool × tiny_Tiny) (hm : tiny_Tiny_Touch a0 a1 = some r) : CO Try.prog 44 [pt b0_ 0, vS a1] G R (Bk b0_ 98 [vI a0.most, g0_.s.1, g0_.r.1] :: rO (sketch_Sketch.op g0_.s.2) g0_.s.1 a0.s :: rO (ring_Rings.op g0_.r.2) g0_.r.1 a0.r :: F)
    (Ret fun u R' L' => ∃ (q0 : tiny_Tiny.G), u = vB r.1 ∧ R' = R ∧ L' = Bk b0_ 98 [vI r.2.most, q0.s.1, q0.r.1] :: rO (sketch_Sketch.op q0.s.2) q0.s.1 r.2.s :: rO (ring_Rings.op q0.r.2) q0.r.1 r.2.r :: F) := by
  obtain ⟨⟨pv1, g2⟩, ⟨pv4, g5⟩⟩ := g0_
  unfold tiny_Tiny_Touch at hm
  refine co_ofN (N := 68) Try.func44 rfl rfl ?_
  refine c_seq ?_
  refine c_reg ?_
  refine r_u (o_as rfl) ?_
  refine r_nil ?_
  refine x_seq ?_
  refine c_seq ?_
  refine c_seq ?_
  refine c_reg ?_
  refine r_u (o_mv rfl) ?_
  refine r_u (o_mv rfl) ?_
  obtain ⟨r6, hr6, hm7⟩ := bs hm
  clear hm
  refine r_c (s_w (o_call ca41 rfl (tiny_Tiny_Has.ok b0_ a0 (⟨(pv1, g2), (pv4, g5)⟩ : tiny_Tiny.G) a1 r6 hr6))) ?_
  refine r_u (o_not rfl) ?_
  refine r_nil ?_
  refine x_seq ?_
  refine c_if (b := !r6) rfl (fun h8 => ?_) fun h8 => ?_
  · have hm9 := ift hm7 h8
    clear hm7
    refine c_seq ?_
    refine c_reg ?_
    refine r_u (o_as rfl) ?_
    refine r_nil ?_
    refine x_seq ?_
    refine c_ret ?_
    obtain rfl := Option.some.inj hm9
    exact x_r1 rfl (rv_t rfl) (Le.refl _) ⟨_, rfl, (⟨(pv1, g2), (pv4, g5)⟩ : tiny_Tiny.G), rfl, rfl, rfl⟩
  · have hm9 := iff_ hm7 h8
    clear hm7
    refine c_skip ?_
    refine x_seq ?_
    refine c_seq ?_
    refine cd_st (fun _ h => mv1 h) ?_
    refine cd_opt (fun ho12 => ?_) (fun x10 b11 ho12 => ?_)
    · rintro rfl
      have hm13 := om_n hm9 ho12
      clear hm9
      cases hm13
    · rintro rfl
      have hm13 := om_s hm9 ho12
      clear hm9
      refine cd_st (fun _ h => st_star_o h) ?_
      refine c_reg ?_
      refine r_u (o_mv rfl) ?_
      refine r_u (o_nc rfl) ?_
      refine r_u (o_fa fa98_1 rfl) ?_
      refine r_u (o_ld 3 sc93 rfl rfl rfl) ?_
      refine r_u (o_mv rfl) ?_
      obtain ⟨r16, hr16, hm17⟩ := bs hm13
      clear hm13
      refine r_c (s_w (o_call ca54 rfl (sketch_Sketch_Add.ok b11 x10 g2 a1 r16 hr16))) ?_
      refine r_nil ?_
      refine x_seq ?_
      refine c_seq ?_
      refine cd_st (fun _ h => mv4 h) ?_
      refine cd_opt (fun ho20 => ?_) (fun x18 b19 ho20 => ?_)
      · rintro rfl
        have hm21 := om_n hm17 ho20
        clear hm17
        cases hm21
      · rintro rfl
        have hm21 := om_s hm17 ho20
        clear hm17
        refine cd_st (fun _ h => st_star_o h) ?_
        refine c_reg ?_
        refine r_u (o_mv rfl) ?_
        refine r_u (o_nc rfl) ?_
        refine r_u (o_fa fa98_2 rfl) ?_
        refine r_u (o_ld 8 sc88 rfl rfl rfl) ?_
        refine r_u (o_mv rfl) ?_
        obtain ⟨r26, hr26, hm27⟩ := bs hm21
        clear hm21
        refine r_c (s_w (o_call ca52 rfl (ring_Rings_In.ok b19 x18 g5 a1 r26 hr26))) ?_
        refine r_u (o_mv rfl) ?_
        refine r_u (o_ext rfl rfl) ?_
        refine r_u (o_ext rfl rfl) ?_
        refine r_u (o_as rfl) ?_
        refine r_u (o_as rfl) ?_
        refine r_nil ?_
        refine x_seq ?_
        refine c_seq ?_
        refine c_seq ?_
        refine c_reg ?_
        refine r_u (o_mv rfl) ?_
        refine r_u (o_bin rfl rfl (bI_eq r26.1 0)) ?_
        refine r_nil ?_
        refine x_seq ?_
        refine c_if (b := (r26.1 == 0)) rfl (fun h28 => ?_) fun h28 => ?_
        · have hm29 := ift hm27 h28
          clear hm27
          refine c_seq ?_
          refine c_reg ?_
          refine r_u (o_mv rfl) ?_
          refine r_u (o_nc rfl) ?_
          refine r_u (o_fa fa98_2 rfl) ?_
          refine r_u (o_ld 8 sc88 rfl rfl rfl) ?_
          refine r_u (o_mv rfl) ?_
          obtain ⟨r30, hr30, hm36⟩ := bs hm29
          clear hm29
          refine r_sw (s_w (o_call ca55 rfl (ring_Rings_Front.ok b19 x18 g5 0 a1 r30 hr30))) ?_
          rintro _ R _ _ ⟨g31, rfl, rfl, rfl⟩
          refine r_u (o_as rfl) ?_
          refine r_nil ?_
          refine x_seq ?_
          refine c_ret ?_
          refine ex_st (fun _ h => mv7 (mv7 (mv7 h))) ?_
          refine ex_st (fun _ h => st_some (f := sketch_Sketch.op g2) (a := r16) (st_star_f (A := sketch_Sketch.fl b11 r16 g2) h)) ?_
          refine ex_st (fun _ h => mv5 (mv5 (mv5 (mv5 (mv5 h))))) ?_
          refine ex_st (fun _ h => st_some (f := ring_Rings.op g31) (a := r30.2) (st_star_f (A := ring_Rings.fl b19 r30.2 g31) h)) ?_
          obtain rfl := Option.some.inj hm36
          refine ex_st (fun _ h => st_pk 3 [2, 1, 0] (by decide) h) ?_
          exact x_r1 rfl (rv_t rfl) (Le.refl _) ⟨_, rfl, (⟨(pt b11 0, g2), (pt b19 0, g31)⟩ : tiny_Tiny.G), rfl, rfl, rfl⟩
        · have hm29 := iff_ hm27 h28
          clear hm27
          refine c_skip ?_
          refine x_seq ?_
          refine c_seq ?_
          refine c_reg ?_
          refine r_u (o_mv rfl) ?_
          refine r_u (o_nc rfl) ?_
          refine r_u (o_fa fa98_2 rfl) ?_
          refine r_u (o_ld 8 sc88 rfl rfl rfl) ?_
          refine r_u (o_mv rfl) ?_
          obtain ⟨r37, hr37, hm43⟩ := bs hm29
          clear hm29
          refine r_sw (s_w (o_call ca55 rfl (ring_Rings_Front.ok b19 x18 g5 2 a1 r37 hr37))) ?_
          rintro _ R _ _ ⟨g38, rfl, rfl, rfl⟩
          refine r_nil ?_
          refine x_seq ?_
          refine c_seq ?_
          refine c_seq ?_
          obtain ⟨r44, hr44, hm45⟩ := bs hm43
          clear hm43
          refine c_any mixed (effs := []) (V := []) ?_
          refine stage_ext [(0, pt b0_ 0), (1, pt b0_ 0), (2, pt b0_ 2), (3, pt b19 0), (4, vI r44), (5, pt b0_ 0), (6, pt b0_ 0), (7, pt b0_ 0), (8, vI a0.most), (9, .agg (api_Parts.c (tiny_Parts a0.most)).toArray), (10, vI ((tiny_Parts a0.most).Protected)), (11, vB (decide (((tiny_Parts a0.most).Protected) < r44)))] rfl ?_
          refine stage rfl rfl rfl rfl [0, 1, 3, 7, 15, 0, 32, 96, 224, 511, 1023, 2047] [0, 1, 2, 3, 4, 5, 6, 7, 8, 9, 10, 11] [] rfl rfl rfl (qc rfl rfl (s_u (o_mv rfl)) (qc rfl rfl (s_u (o_nc rfl)) (qc rfl rfl (s_u (o_fa fa98_2 rfl)) (qc rfl rfl (s_u (o_ld 8 sc88 rfl rfl rfl)) (qc rfl rfl (s_u (o_callqP ca56 rfl (ring_Rings_Len.ok b19 r37.2 g38 2 r44 hr44) (fun _ h => st_pk 9 [0, 1, 2, 3, 4, 5, 6, 7, 8] (by decide) h) (fun _ h => st_pk 9 [0, 1, 2, 3, 4, 5, 6, 7, 8] (by decide) h))) (qc rfl rfl (s_u (o_mv rfl)) (qc rfl rfl (s_u (o_nc rfl)) (qc rfl rfl (s_u (o_fa fa98_0 rfl)) (qc rfl rfl (s_u (o_ld 8 sc3 rfl rfl rfl)) (qc rfl rfl (s_u (o_callq ca57 rfl (tiny_Parts.ok a0.most _ rfl))) (qc rfl rfl (s_u (o_fd (v := vI ((tiny_Parts a0.most).Protected)) rfl (fun _ => by kernel_rfl))) (qc rfl rfl (s_u (o_bin rfl rfl (bI_gt r44 ((tiny_Parts a0.most).Protected)))) qn)))))))))))) en ?_
          intro _
          refine ex_sub (E' := [(0, pt b0_ 0), (53, vB (decide (((tiny_Parts a0.most).Protected) < r44)))]) ⟨rfl, rfl, trivial⟩ ?_
          refine x_seq ?_
          refine c_if (b := decide (((tiny_Parts a0.most).Protected) < r44)) rfl (fun h46 => ?_) fun h46 => ?_
          · have hm47 := ift hm45 h46
            clear hm45
            refine c_seq ?_
            refine c_reg ?_
            refine r_u (o_mv rfl) ?_
            refine r_u (o_nc rfl) ?_
            refine r_u (o_fa fa98_2 rfl) ?_
            refine r_u (o_ld 8 sc88 rfl rfl rfl) ?_
            obtain ⟨r48, hr48, hm49⟩ := bs hm47
            clear hm47
            refine r_c (s_w (o_call ca58 rfl (ring_Rings_Back.ok b19 r37.2 g38 2 r48 hr48))) ?_
            refine r_u (o_mv rfl) ?_
            refine r_u (o_ext rfl rfl) ?_
            refine r_u (o_ext rfl rfl) ?_
            refine r_u (o_as rfl) ?_
            refine r_u (o_as rfl) ?_
            refine r_nil ?_
            refine x_seq ?_
            refine c_reg ?_
            refine r_u (o_mv rfl) ?_
            refine r_u (o_nc rfl) ?_
            refine r_u (o_fa fa98_2 rfl) ?_
            refine r_u (o_ld 8 sc88 rfl rfl rfl) ?_
            refine r_u (o_mv rfl) ?_
            obtain ⟨r50, hr50, hm56⟩ := bs hm49
            clear hm49
            refine r_sw (s_w (o_call ca55 rfl (ring_Rings_Front.ok b19 r37.2 g38 1 r48.1 r50 hr50))) ?_
            rintro _ R _ _ ⟨g51, rfl, rfl, rfl⟩
            refine r_nil ?_
            refine x_seq ?_
            refine c_seq ?_
            refine c_reg ?_
            refine r_u (o_as rfl) ?_
            refine r_nil ?_
            refine x_seq ?_
            refine c_ret ?_
            refine ex_st (fun _ h => mv7 (mv7 (mv7 h))) ?_
            refine ex_st (fun _ h => st_some (f := sketch_Sketch.op g2) (a := r16) (st_star_f (A := sketch_Sketch.fl b11 r16 g2) h)) ?_
            refine ex_st (fun _ h => mv5 (mv5 (mv5 (mv5 (mv5 h))))) ?_
            refine ex_st (fun _ h => st_some (f := ring_Rings.op g51) (a := r50.2) (st_star_f (A := ring_Rings.fl b19 r50.2 g51) h)) ?_
            obtain rfl := Option.some.inj hm56
            refine ex_st (fun _ h => st_pk 3 [2, 1, 0] (by decide) h) ?_
            exact x_r1 rfl (rv_t rfl) (Le.refl _) ⟨_, rfl, (⟨(pt b11 0, g2), (pt b19 0, g51)⟩ : tiny_Tiny.G), rfl, rfl, rfl⟩
          · have hm47 := iff_ hm45 h46
            clear hm45
            refine c_skip ?_
            refine x_seq ?_
            refine c_seq ?_
            refine c_reg ?_
            refine r_u (o_as rfl) ?_
            refine r_nil ?_
            refine x_seq ?_
            refine c_ret ?_
            refine ex_st (fun _ h => mv7 (mv7 (mv7 h))) ?_
            refine ex_st (fun _ h => st_some (f := sketch_Sketch.op g2) (a := r16) (st_star_f (A := sketch_Sketch.fl b11 r16 g2) h)) ?_
            refine ex_st (fun _ h => mv5 (mv5 (mv5 (mv5 (mv5 h))))) ?_
            refine ex_st (fun _ h => st_some (f := ring_Rings.op g38) (a := r37.2) (st_star_f (A := ring_Rings.fl b19 r37.2 g38) h)) ?_
            obtain rfl := Option.some.inj hm47
            refine ex_st (fun _ h => st_pk 3 [2, 1, 0] (by decide) h) ?_
            exact x_r1 rfl (rv_t rfl) (Le.refl _) ⟨_, rfl, (⟨(pt b11 0, g2), (pt b19 0, g38)⟩ : tiny_Tiny.G), rfl, rfl, rfl⟩

def policy_Policy_Touch (a0 : policy_Policy) (a1 : Str) : Option (Bool × policy_Policy) :=
  if ((policy_Policy_Kind a0) == 1) then om a0.a (none) fun x8 => (arc_Arc_Touch x8 a1).bind fun r15 => some (r15.1, (⟨a0.kind, (some r15.2), a0.t⟩ : policy_Policy)) else if ((policy_Policy_Kind a0) == 2) then om a0.t (none) fun x23 => (tiny_Tiny_Touch x23 a1).bind fun r33 => some (r33.1, (⟨a0.kind, a0.a, (some r33.2)⟩ : policy_Policy)) else some (false, a0)
theorem policy_Policy_Touch.ok {G R F} (b0_ : Nat) (a0 : policy_Policy) (g0_ : policy_Policy.G) (a1 : Str) (r : Bool × policy_Policy) (hm : policy_Policy_Touch a0 a1 = some r) : CO Try.prog 31 [pt b0_ 0, vS a1] G R (Bk b0_ 72 [vI a0.kind, g0_.a.1, g0_.t.1] :: rO (arc_Arc.op g0_.a.2) g0_.a.1 a0.a :: rO (tiny_Tiny.op g0_.t.2) g0_.t.1 a0.t :: F)
    (Ret fun u R' L' => ∃ (q0 : policy_Policy.G), u = vB r.1 ∧ R' = R ∧ L' = Bk b0_ 72 [vI r.2.kind, q0.a.1, q0.t.1] :: rO (arc_Arc.op q0.a.2) q0.a.1 r.2.a :: rO (tiny_Tiny.op q0.t.2) q0.t.1 r.2.t :: F) := by
  obtain ⟨⟨pv1, g2⟩, ⟨pv4, g5⟩⟩ := g0_
  unfold policy_Policy_Touch at hm
  refine co_ofN (N := 23) Try.func31 rfl rfl ?_
  refine c_seq ?_
  refine c_reg ?_
  refine r_u (o_as rfl) ?_
  refine r_nil ?_
  refine x_seq ?_
  refine c_seq ?_
  refine c_seq ?_
  refine c_reg ?_
  refine r_u (o_mv rfl) ?_
  refine r_c (s_w (o_call ca27 rfl (policy_Policy_Kind.ok b0_ a0 (⟨(pv1, g2), (pv4, g5)⟩ : policy_Policy.G) _ rfl))) ?_
  refine r_nil ?_
  refine x_seq ?_
  refine c_blk ?_
  refine c_seq ?_
  refine c_reg ?_
  refine r_u (o_bin rfl rfl (bI_eq (policy_Policy_Kind a0) 1)) ?_
  refine r_u (o_as rfl) ?_
  refine r_nil ?_
  refine x_seq ?_
  refine c_if (b := ((policy_Policy_Kind a0) == 1)) rfl (fun h6 => ?_) fun h6 => ?_
  · have hm7 := ift hm h6
    clear hm
    refine c_seq ?_
    refine cd_st (fun _ h => mv1 h) ?_
    refine cd_opt (fun ho10 => ?_) (fun x8 b9 ho10 => ?_)
    · rintro rfl
      have hm11 := om_n hm7 ho10
      clear hm7
      cases hm11
    · rintro rfl
      have hm11 := om_s hm7 ho10
      clear hm7
      obtain ⟨⟨pv13, g14⟩⟩ := g2
      refine cd_st (fun _ h => st_star_o h) ?_
      refine c_reg ?_
      refine r_u (o_mv rfl) ?_
      refine r_u (o_nc rfl) ?_
      refine r_u (o_fa fa72_1 rfl) ?_
      refine r_u (o_ld 2 sc69 rfl rfl rfl) ?_
      refine r_u (o_mv rfl) ?_
      obtain ⟨r15, hr15, hm20⟩ := bs hm11
      clear hm11
      refine r_sw (s_w (o_call ca43 rfl (arc_Arc_Touch.ok b9 x8 (⟨(pv13, g14)⟩ : arc_Arc.G) a1 r15 hr15))) ?_
      rintro _ R _ _ ⟨⟨⟨pv18, g19⟩⟩, rfl, rfl, rfl⟩
      refine r_u (o_as rfl) ?_
      refine r_nil ?_
      refine x_seq ?_
      refine c_ret ?_
      refine ex_st (fun _ h => st_some (f := arc_Arc.op (⟨(pv18, g19)⟩ : arc_Arc.G)) (a := r15.2) (st_star_f (A := arc_Arc.fl b9 r15.2 (⟨(pv18, g19)⟩ : arc_Arc.G)) h)) ?_
      obtain rfl := Option.some.inj hm20
      refine ex_st (fun _ h => st_pk 3 [1, 0, 2] (by decide) h) ?_
      exact x_r1 rfl (rv_t rfl) (Le.refl _) ⟨_, rfl, (⟨(pt b9 0, (⟨(pv18, g19)⟩ : arc_Arc.G)), (pv4, g5)⟩ : policy_Policy.G), rfl, rfl, rfl⟩
  · have hm7 := iff_ hm h6
    clear hm
    refine c_seq ?_
    refine c_reg ?_
    refine r_u (o_bin rfl rfl (bI_eq (policy_Policy_Kind a0) 2)) ?_
    refine r_u (o_as rfl) ?_
    refine r_nil ?_
    refine x_seq ?_
    refine c_if (b := ((policy_Policy_Kind a0) == 2)) rfl (fun h21 => ?_) fun h21 => ?_
    · have hm22 := ift hm7 h21
      clear hm7
      refine c_seq ?_
      refine cd_st (fun _ h => mv2 h) ?_
      refine cd_opt (fun ho25 => ?_) (fun x23 b24 ho25 => ?_)
      · rintro rfl
        have hm26 := om_n hm22 ho25
        clear hm22
        cases hm26
      · rintro rfl
        have hm26 := om_s hm22 ho25
        clear hm22
        obtain ⟨⟨pv28, g29⟩, ⟨pv31, g32⟩⟩ := g5
        refine cd_st (fun _ h => st_star_o h) ?_
        refine c_reg ?_
        refine r_u (o_mv rfl) ?_
        refine r_u (o_nc rfl) ?_
        refine r_u (o_fa fa72_2 rfl) ?_
        refine r_u (o_ld 3 sc70 rfl rfl rfl) ?_
        refine r_u (o_mv rfl) ?_
        obtain ⟨r33, hr33, hm41⟩ := bs hm26
        clear hm26
        refine r_sw (s_w (o_call ca44 rfl (tiny_Tiny_Touch.ok b24 x23 (⟨(pv28, g29), (pv31, g32)⟩ : tiny_Tiny.G) a1 r33 hr33))) ?_
        rintro _ R _ _ ⟨⟨⟨pv36, g37⟩, ⟨pv39, g40⟩⟩, rfl, rfl, rfl⟩
        refine r_u (o_as rfl) ?_
        refine r_nil ?_
        refine x_seq ?_
        refine c_ret ?_
        refine ex_st (fun _ h => st_some (f := tiny_Tiny.op (⟨(pv36, g37), (pv39, g40)⟩ : tiny_Tiny.G)) (a := r33.2) (st_star_f (A := tiny_Tiny.fl b24 r33.2 (⟨(pv36, g37), (pv39, g40)⟩ : tiny_Tiny.G)) h)) ?_
        obtain rfl := Option.some.inj hm41
        refine ex_st (fun _ h => st_pk 3 [1, 2, 0] (by decide) h) ?_
        exact x_r1 rfl (rv_t rfl) (Le.refl _) ⟨_, rfl, (⟨(pv1, g2), (pt b24 0, (⟨(pv36, g37), (pv39, g40)⟩ : tiny_Tiny.G))⟩ : policy_Policy.G), rfl, rfl, rfl⟩
    · have hm22 := iff_ hm7 h21
      clear hm7
      refine c_skip ?_
      refine x_blk ?_
      refine x_seq ?_
      refine c_seq ?_
      refine c_reg ?_
      refine r_u (o_as rfl) ?_
      refine r_nil ?_
      refine x_seq ?_
      refine c_ret ?_
      obtain rfl := Option.some.inj hm22
      exact x_r1 rfl (rv_t rfl) (Le.refl _) ⟨_, rfl, (⟨(pv1, g2), (pv4, g5)⟩ : policy_Policy.G), rfl, rfl, rfl⟩

def table_Table_Put (a0 : table_Table) (a1 : api_Entry) : table_Table :=
  lt (table_Table_Drop a0 a1.Key) fun r2 => (⟨mput r2.2.m a1.Key a1, i64 (r2.2.bytes + (table_size a1))⟩ : table_Table)
theorem table_Table_Put.ok {G R F} (b0_ : Nat) (a0 : table_Table) (g0_ : table_Table.G) (a1 : api_Entry) (r : table_Table) (hm : table_Table_Put a0 a1 = r) : CO Try.prog 45 [pt b0_ 0, .agg (api_Entry.c a1).toArray] G R (Bk b0_ 79 [g0_.m, vI a0.bytes] :: OwM vS api_Entry.v g0_.m a0.m :: F)
    (Ret fun u R' L' => u = .tuple #[] ∧ R' = R ∧ L' = Bk b0_ 79 [g0_.m, vI r.bytes] :: OwM vS api_Entry.v g0_.m r.m :: F) := by
  unfold table_Table_Put at hm
  refine co_ofN (N := 26) Try.func45 rfl rfl ?_
  refine c_seq ?_
  refine c_reg ?_
  refine r_new (o_bx (api_Entry.c a1) rfl rfl) fun b1 => ?_
  refine r_nil ?_
  refine x_seq ?_
  refine c_seq ?_
  refine c_reg ?_
  refine r_u (o_mv rfl) ?_
  refine r_u (o_bin rfl rfl (bP_nep Try.underlying51)) ?_
  refine r_nil ?_
  refine x_seq ?_
  refine c_tt rfl ?_
  refine c_seq ?_
  refine c_reg ?_
  refine r_u (o_mv rfl) ?_
  refine r_u (o_fa fa44_0 rfl) ?_
  refine r_u (o_ld 0 sc9 rfl rfl rfl) ?_
  obtain ⟨r2, hr2, hm3⟩ := ltx hm
  clear hm
  refine rl_st (fun _ h => mv2 (mv2 h)) ?_
  refine r_c (s_w (o_call ca17 rfl (table_Table_Drop.ok b0_ a0 g0_ a1.Key r2 hr2))) ?_
  refine r_nil ?_
  refine x_seq ?_
  refine c_seq ?_
  refine c_any mixed (effs := [7]) (V := []) ?_
  refine stage_st (fun _ h => mv1 h) ?_
  refine stage_ext [(0, pt b0_ 0), (1, pt b0_ 0), (2, pt b0_ 0), (3, g0_.m), (4, pt b1 0), (5, vS a1.Key), (6, .agg (api_Entry.c a1).toArray)] rfl ?_
  refine stage rfl rfl rfl rfl [0, 1, 3, 7, 0, 16, 0, 127] [0, 1, 2, 3, 4, 5, 6] [7] rfl rfl rfl (qc rfl rfl (s_u (o_mv rfl)) (qc rfl rfl (s_u (o_nc rfl)) (qc rfl rfl (s_u (o_fa fa79_0 rfl)) (qc rfl rfl (s_u (o_ld 1 sc77 rfl rfl rfl)) (qc rfl rfl (s_u (o_fa fa44_0 rfl)) (qc rfl rfl (s_u (o_ld 2 sc9 rfl rfl rfl)) (qc rfl rfl (s_u (o_ldn 2 (api_Entry.c a1) ag44 rfl rfl rfl rfl)) qn))))))) ?_ (fun h => absurd h (by decide))
  refine ec (eo_u rfl (s_u (o_mu (kv := vS) (vv := api_Entry.v) (key := a1.Key) (val := a1) Try.underlying77 (kok_S Try.underlying9) rfl rfl rfl rfl)) (Le.refl _) ?_) en
  refine stage rfl rfl rfl rfl [0, 1, 3, 7, 0, 16, 0, 127] [] [] rfl rfl rfl qn en ?_
  intro _
  refine ex_sub (E' := [(0, pt b0_ 0), (3, pt b1 0)]) ⟨rfl, rfl, trivial⟩ ?_
  refine x_seq ?_
  refine c_any mixed (effs := [9]) (V := []) ?_
  refine stage_st (fun _ h => mv1 h) ?_
  refine stage_ext [(0, pt b0_ 0), (1, pt b0_ 0), (2, pt b0_ 1), (3, vI r2.2.bytes), (4, .agg (api_Entry.c a1).toArray), (5, vI (table_size a1)), (6, vI (i64 (r2.2.bytes + (table_size a1)))), (7, pt b0_ 0), (8, pt b0_ 1)] rfl ?_
  refine stage rfl rfl rfl rfl [0, 1, 3, 7, 0, 16, 63, 127, 255, 511] [0, 1, 2, 3, 4, 5, 6, 7, 8] [9] rfl rfl rfl (qc rfl rfl (s_u (o_mv rfl)) (qc rfl rfl (s_u (o_nc rfl)) (qc rfl rfl (s_u (o_fa fa79_1 rfl)) (qc rfl rfl (s_u (o_ld 0 sc3 rfl rfl rfl)) (qc rfl rfl (s_u (o_ldn 2 (api_Entry.c a1) ag44 rfl rfl rfl rfl)) (qc rfl rfl (s_u (o_callq ca26 rfl (table_size.ok a1 _ rfl))) (qc rfl rfl (s_u (o_bin rfl rfl (bI_add r2.2.bytes (table_size a1)))) (qc rfl rfl (s_u (o_nc rfl)) (qc rfl rfl (s_u (o_fa fa79_1 rfl)) qn))))))))) ?_ (fun h => absurd h (by decide))
  refine ec (eo_u rfl (s_u (o_st sc3 rfl rfl rfl rfl rfl rfl)) (Le.refl _) ?_) en
  refine stage rfl rfl rfl rfl [0, 1, 3, 7, 0, 16, 63, 127, 255, 511] [] [] rfl rfl rfl qn en ?_
  intro _
  refine ex_sub (E' := []) trivial ?_
  refine x_end ?_
  subst hm3
  refine ex_st (fun _ h => st_pk 3 [0, 1] (by decide) h) ?_
  exact x_r0 rfl (Le.refl _) ⟨_, rfl, rfl, rfl, rfl⟩

def arc_Arc_Len (a0 : arc_Arc) : Option Int :=
  om a0.r (none) fun x3 => (ring_Rings_Len x3 0).bind fun r11 => (ring_Rings_Len x3 1).bind fun r13 => some (i64 (r11 + r13))
theorem arc_Arc_Len.ok {G R F} (b0_ : Nat) (a0 : arc_Arc) (g0_ : arc_Arc.G) (r : Int) (hm : arc_Arc_Len a0 = some r) : CO Try.prog 73 [pt b0_ 0] G R (Bk b0_ 92 [vI a0.most, vI a0.target, g0_.r.1] :: rO (ring_Rings.op g0_.r.2) g0_.r.1 a0.r :: F)
    (Ret fun u R' L' => u = vI r ∧ R' = R ∧ L' = Bk b0_ 92 [vI a0.most, vI a0.target, g0_.r.1] :: rO (ring_Rings.op g0_.r.2) g0_.r.1 a0.r :: F) := by
  obtain ⟨⟨pv1, g2⟩⟩ := g0_
  unfold arc_Arc_Len at hm
  refine co_ofN (N := 16) Try.func73 rfl rfl ?_
  refine c_seq ?_
  refine c_reg ?_
  refine r_u (o_as rfl) ?_
  refine r_nil ?_
  refine x_seq ?_
  refine c_seq ?_
  refine c_seq ?_
  refine c_reg ?_
  refine r_u (o_mv rfl) ?_
  refine r_u (o_bin rfl rfl (bP_eqp Try.underlying69)) ?_
  refine r_nil ?_
  refine x_seq ?_
  refine c_ff rfl ?_
  refine c_skip ?_
  refine x_seq ?_
  refine c_seq ?_
  refine cd_st (fun _ h => mv1 h) ?_
  refine cd_opt (fun ho5 => ?_) (fun x3 b4 ho5 => ?_)
  · rintro rfl
    have hm6 := om_n hm ho5
    clear hm
    cases hm6
  · rintro rfl
    have hm6 := om_s hm ho5
    clear hm
    refine cd_st (fun _ h => st_star_o h) ?_
    obtain ⟨r11, hr11, hm12⟩ := bs hm6
    clear hm6
    obtain ⟨r13, hr13, hm14⟩ := bs hm12
    clear hm12
    refine c_any mixed (effs := []) (V := []) ?_
    refine stage_ext [(0, pt b0_ 0), (1, pt b0_ 0), (2, pt b0_ 2), (3, pt b4 0), (4, vI r11), (5, pt b0_ 0), (6, pt b0_ 0), (7, pt b0_ 2), (8, pt b4 0), (9, vI r13), (10, vI (i64 (r11 + r13))), (11, vI (i64 (r11 + r13)))] rfl ?_
    refine stage rfl rfl rfl rfl [0, 1, 3, 7, 15, 0, 32, 96, 224, 511, 1023, 2047] [0, 1, 2, 3, 4, 5, 6, 7, 8, 9, 10, 11] [] rfl rfl rfl (qc rfl rfl (s_u (o_mv rfl)) (qc rfl rfl (s_u (o_nc rfl)) (qc rfl rfl (s_u (o_fa fa92_2 rfl)) (qc rfl rfl (s_u (o_ld 5 sc88 rfl rfl rfl)) (qc rfl rfl (s_u (o_callqP ca56 rfl (ring_Rings_Len.ok b4 x3 g2 0 r11 hr11) (fun _ h => st_pk 6 [0, 1, 2, 3, 4, 5] (by decide) h) (fun _ h => st_pk 6 [0, 1, 2, 3, 4, 5] (by decide) h))) (qc rfl rfl (s_u (o_mv rfl)) (qc rfl rfl (s_u (o_nc rfl)) (qc rfl rfl (s_u (o_fa fa92_2 rfl)) (qc rfl rfl (s_u (o_ld 5 sc88 rfl rfl rfl)) (qc rfl rfl (s_u (o_callqP ca56 rfl (ring_Rings_Len.ok b4 x3 g2 1 r13 hr13) (fun _ h => st_pk 6 [0, 1, 2, 3, 4, 5] (by decide) h) (fun _ h => st_pk 6 [0, 1, 2, 3, 4, 5] (by decide) h))) (qc rfl rfl (s_u (o_bin rfl rfl (bI_add r11 r13))) (qc rfl rfl (s_u (o_as rfl)) qn)))))))))))) en ?_
    intro _
    refine ex_sub (E' := [(2, vI (i64 (r11 + r13)))]) ⟨rfl, trivial⟩ ?_
    refine x_seq ?_
    refine c_ret ?_
    refine ex_st (fun _ h => st_some (f := ring_Rings.op g2) (a := x3) (st_star_f (A := ring_Rings.fl b4 x3 g2) h)) ?_
    refine ex_st (fun _ h => st_back ho5 h) ?_
    obtain rfl := Option.some.inj hm14
    refine ex_st (fun _ h => st_pk 2 [1, 0] (by decide) h) ?_
    exact x_r1 rfl (rv_t rfl) (Le.refl _) ⟨_, rfl, rfl, rfl, rfl⟩

end Go.Proofs.Ytpanhdnglicknaa
