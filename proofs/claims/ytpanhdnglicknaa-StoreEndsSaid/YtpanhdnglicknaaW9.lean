import Derived.Test.YtpanhdnglicknaaW8
import Derived.Test.YtpanhdnglicknaaFacts
import Derived.Test.YtpanhdnglicknaaHwZ
set_option linter.unusedVariables false
set_option linter.unusedSectionVars false
set_option linter.unusedSimpArgs false
set_option maxRecDepth 100000
set_option maxHeartbeats 8000000
namespace Go.Proofs.Ytpanhdnglicknaa
open Go Go.Proofs.Ytpanhdnglicknaa.Hw
def hawthornlaw12_StoreEnds (a0 : UInt64) (a1 : UInt64) (a2 : UInt64) : Option Bool :=
  (store_New (⟨2, 4, 1000, 3⟩ : api_Config)).bind fun r0 => om r0.1 (none) fun x5 => (store_Store_Apply x5 (⟨1, a0, 1, 1, (⟨2, [107], [118], 1 + (a1 % 1073741824), 0⟩ : api_Op)⟩ : api_Record)).bind fun r16 => (store_Store_Apply r16.2.2 (⟨2, a2, 1, 2, (⟨1, [107], [], 0, 0⟩ : api_Op)⟩ : api_Record)).bind fun r27 => (hawthornlaw12_awake).bind fun r38 => if ((((!r38 || (r0.2 != 0)) || (r16.2.1 != 0)) || (r27.2.1 != 0)) || (r16.1.E != 0)) then some false else Option.bind (if decide (a0 < a2) then some (a2 - a0) else some 0) fun p42 => some (((r27.1.E == 0) == (decide (p42 < (1 + (a1 % 1073741824))) && (decide (a2 < 18446744073709551615) || (a0 == 18446744073709551615)))) && ((r27.1.E == 0) || (r27.1.E == 2)))
theorem hawthornlaw12_StoreEnds.ok {G R F} (a0 : UInt64) (a1 : UInt64) (a2 : UInt64) (r : Bool) (hm : hawthornlaw12_StoreEnds a0 a1 a2 = some r) : CO Try.prog 4 [vW a0, vW a1, vW a2] G R (F)
    (Ret fun u R' L' => u = vB r ∧ R' = R ∧ L' = F) := by
  unfold hawthornlaw12_StoreEnds at hm
  refine co_ofN (N := 92) Try.func4 rfl rfl ?_
  refine c_seq ?_
  refine c_reg ?_
  refine r_u (o_as rfl) ?_
  refine r_nil ?_
  refine x_seq ?_
  refine c_seq ?_
  refine c_reg ?_
  refine r_u (o_bld [vI 2, vI 4, vI 1000, vW 3] rfl (fun _ => by kernel_rfl)) ?_
  obtain ⟨r0, hr0, hm4⟩ := bs hm
  clear hm
  refine r_sw (s_w (o_call ca7 rfl (store_New.ok (⟨2, 4, 1000, 3⟩ : api_Config) r0 hr0))) ?_
  rintro _ R _ _ ⟨⟨pv2, g3⟩, rfl, rfl, rfl⟩
  refine r_u (o_mv rfl) ?_
  refine r_u (o_ext rfl rfl) ?_
  refine r_u (o_ext rfl rfl) ?_
  refine r_u (o_as rfl) ?_
  refine r_u (o_as rfl) ?_
  refine r_nil ?_
  refine x_seq ?_
  refine c_seq ?_
  refine c_reg ?_
  refine r_u (o_mv rfl) ?_
  refine r_u (o_bin rfl rfl (bW_rem a1 1073741824 (by decide))) ?_
  refine r_u (o_bin rfl rfl (bW_add 1 (a1 % 1073741824))) ?_
  refine r_u (o_as rfl) ?_
  refine r_nil ?_
  refine x_seq ?_
  refine c_seq ?_
  refine cd_opt (fun ho7 => ?_) (fun x5 b6 ho7 => ?_)
  · rintro rfl
    have hm8 := om_n hm4 ho7
    clear hm4
    cases hm8
  · rintro rfl
    have hm8 := om_s hm4 ho7
    clear hm4
    obtain ⟨⟨pv10, g11⟩, ⟨pv13, g14⟩, g15⟩ := g3
    refine cd_st (fun _ h => st_star_o h) ?_
    refine c_reg ?_
    refine r_u (o_mv rfl) ?_
    refine r_u (o_mv rfl) ?_
    refine r_u (o_mv rfl) ?_
    refine r_u (o_bld [vI 2, vS [107], vS [118], vW (1 + (a1 % 1073741824)), vW 0] rfl (fun _ => by kernel_rfl)) ?_
    refine r_u (o_bld [vW 1, vW a0, vW 1, vW 1, vI 2, vS [107], vS [118], vW (1 + (a1 % 1073741824)), vW 0] rfl (fun _ => by kernel_rfl)) ?_
    obtain ⟨r16, hr16, hm25⟩ := bs hm8
    clear hm8
    refine r_sw (s_w (o_call ca9 rfl (store_Store_Apply.ok b6 x5 (⟨(pv10, g11), (pv13, g14), g15⟩ : store_Store.G) (⟨1, a0, 1, 1, (⟨2, [107], [118], 1 + (a1 % 1073741824), 0⟩ : api_Op)⟩ : api_Record) r16 hr16))) ?_
    rintro _ R _ _ ⟨⟨⟨pv19, g20⟩, ⟨pv22, g23⟩, g24⟩, rfl, rfl, rfl⟩
    refine r_u (o_mv rfl) ?_
    refine r_u (o_ext rfl rfl) ?_
    refine r_u (o_ext rfl rfl) ?_
    refine r_new (o_al ze33) fun b26 => ?_
    refine r_u0 (o_stn ag33 rfl rfl rfl rfl rfl rfl rfl) ?_
    refine r_u (o_as rfl) ?_
    refine r_nil ?_
    refine x_seq ?_
    refine c_seq ?_
    refine c_reg ?_
    refine r_u (o_mv rfl) ?_
    refine r_u (o_mv rfl) ?_
    refine r_u (o_bld [vI 1, vS [107], vS [], vW 0, vW 0] rfl (fun _ => by kernel_rfl)) ?_
    refine r_u (o_bld [vW 2, vW a2, vW 1, vW 2, vI 1, vS [107], vS [], vW 0, vW 0] rfl (fun _ => by kernel_rfl)) ?_
    obtain ⟨r27, hr27, hm36⟩ := bs hm25
    clear hm25
    refine rl_st (fun _ h => mv4 (mv4 (mv4 (mv4 h)))) ?_
    refine r_sw (s_w (o_call ca9 rfl (store_Store_Apply.ok b6 r16.2.2 (⟨(pv19, g20), (pv22, g23), g24⟩ : store_Store.G) (⟨2, a2, 1, 2, (⟨1, [107], [], 0, 0⟩ : api_Op)⟩ : api_Record) r27 hr27))) ?_
    rintro _ R _ _ ⟨⟨⟨pv30, g31⟩, ⟨pv33, g34⟩, g35⟩, rfl, rfl, rfl⟩
    refine r_u (o_mv rfl) ?_
    refine r_u (o_ext rfl rfl) ?_
    refine r_u (o_ext rfl rfl) ?_
    refine r_new (o_al ze33) fun b37 => ?_
    refine r_u0 (o_stn ag33 rfl rfl rfl rfl rfl rfl rfl) ?_
    refine r_u (o_as rfl) ?_
    refine r_nil ?_
    refine x_seq ?_
    refine c_seq ?_
    refine c_seq ?_
    refine c_reg ?_
    obtain ⟨r38, hr38, hm39⟩ := bs hm36
    clear hm36
    refine r_u (o_callq ca6 rfl (hawthornlaw12_awake.ok r38 hr38)) ?_
    refine r_u (o_not rfl) ?_
    refine r_u (o_mv rfl) ?_
    refine r_s (s_gf rfl rfl fun g => o_mv rfl) ?_
    refine r_s (s_gf rfl rfl fun g => o_bin (evg rfl g) rfl (bI_ne r0.2 0)) ?_
    refine r_u (o_or rfl rfl) ?_
    refine r_u (o_mv rfl) ?_
    refine r_s (s_gf rfl rfl fun g => o_mv rfl) ?_
    refine r_s (s_gf rfl rfl fun g => o_bin (evg rfl g) rfl (bI_ne r16.2.1 0)) ?_
    refine r_u (o_or rfl rfl) ?_
    refine r_u (o_mv rfl) ?_
    refine r_s (s_gf rfl rfl fun g => o_mv rfl) ?_
    refine r_s (s_gf rfl rfl fun g => o_bin (evg rfl g) rfl (bI_ne r27.2.1 0)) ?_
    refine r_u (o_or rfl rfl) ?_
    refine r_u (o_mv rfl) ?_
    refine r_s (s_gf rfl rfl fun g => o_fa fa33_0 rfl) ?_
    refine r_s (s_gf rfl rfl fun g => o_ld 5 sc25 (evg rfl g) rfl rfl) ?_
    refine r_s (s_gf rfl rfl fun g => o_bin (evg rfl g) rfl (bI_ne r16.1.E 0)) ?_
    refine r_u (o_or rfl rfl) ?_
    refine r_nil ?_
    refine x_seq ?_
    refine c_if (b := ((((!r38 || (r0.2 != 0)) || (r16.2.1 != 0)) || (r27.2.1 != 0)) || (r16.1.E != 0))) rfl (fun h40 => ?_) fun h40 => ?_
    · have hm41 := ift hm39 h40
      clear hm39
      refine c_seq ?_
      refine c_reg ?_
      refine r_u (o_as rfl) ?_
      refine r_nil ?_
      refine x_seq ?_
      refine c_ret ?_
      obtain rfl := Option.some.inj hm41
      refine ex_st (fun _ h => st_pk 6 [] (by decide) h) ?_
      exact x_r1 rfl (rv_t rfl) (Le.refl _) ⟨_, rfl, rfl, rfl, rfl⟩
    · have hm41 := iff_ hm39 h40
      clear hm39
      refine c_skip ?_
      refine x_seq ?_
      refine c_seq ?_
      refine c_reg ?_
      refine r_u (o_as rfl) ?_
      refine r_nil ?_
      refine x_seq ?_
      refine c_seq ?_
      refine c_seq ?_
      refine c_reg ?_
      refine r_u (o_mv rfl) ?_
      refine r_u (o_mv rfl) ?_
      refine r_u (o_bin rfl rfl (bW_gt a2 a0)) ?_
      refine r_nil ?_
      refine x_seq ?_
      obtain ⟨p42, hp43, hm44⟩ := bs hm41
      refine cd_join (E' := [(0, vW a0), (2, vW a2), (9, vW (1 + (a1 % 1073741824))), (12, pt b37 0), (14, vW p42)]) (L' := Bk b37 33 (api_Reply.c r27.1) :: Bk b6 57 [vI r27.2.2.c.Policy, vI r27.2.2.c.Entries, vI r27.2.2.c.Bytes, vW r27.2.2.c.Seed, pv30, pv33, g35, vW r27.2.2.seq, vW r27.2.2.now, vW r27.2.2.version, vI r27.2.2.tally.Asked, vI r27.2.2.tally.Hits] :: Bk b26 33 (api_Reply.c r16.1) :: rO (table_Table.op g31) pv30 r27.2.2.t :: rO (policy_Policy.op g34) pv33 r27.2.2.p :: OwM vW store_last.v g35 r27.2.2.sessions :: F) ?_ fun K45 => ?_
      · refine x_seq ?_
        refine c_seq ?_
        refine c_reg ?_
        refine r_u (o_mv rfl) ?_
        refine r_u (o_mv rfl) ?_
        refine r_u (o_bin rfl rfl (bW_lt p42 (1 + (a1 % 1073741824)))) ?_
        refine r_u (o_mv rfl) ?_
        refine r_s (s_gt rfl rfl fun g => o_mv rfl) ?_
        refine r_s (s_gt rfl rfl fun g => o_bin (evg rfl g) rfl (bW_lt a2 18446744073709551615)) ?_
        refine r_s (s_gt rfl rfl fun g => o_mv (evg rfl g)) ?_
        refine r_s (s_ggf rfl rfl fun g => o_mv rfl) ?_
        refine r_s (s_ggf rfl rfl fun g => o_bin (evg rfl g) rfl (bW_eq a0 18446744073709551615)) ?_
        refine r_s (s_gt rfl rfl fun g => o_or (evg rfl g) (evg2 rfl g)) ?_
        refine r_u (o_and rfl rfl) ?_
        refine r_u (o_as rfl) ?_
        refine r_nil ?_
        refine x_seq ?_
        refine c_seq ?_
        refine c_reg ?_
        refine r_u (o_fa fa33_0 rfl) ?_
        refine r_u (o_ld 0 sc25 rfl rfl rfl) ?_
        refine r_u (o_bin rfl rfl (bI_eq r27.1.E 0)) ?_
        refine r_u (o_mv rfl) ?_
        refine r_u (o_bin rfl rfl (bB_eq Try.underlying4 (r27.1.E == 0) (decide (p42 < (1 + (a1 % 1073741824))) && (decide (a2 < 18446744073709551615) || (a0 == 18446744073709551615))))) ?_
        refine r_u (o_mv rfl) ?_
        refine r_s (s_gt rfl rfl fun g => o_fa fa33_0 rfl) ?_
        refine r_s (s_gt rfl rfl fun g => o_ld 0 sc25 (evg rfl g) rfl rfl) ?_
        refine r_s (s_gt rfl rfl fun g => o_bin (evg rfl g) rfl (bI_eq r27.1.E 0)) ?_
        refine r_s (s_gt rfl rfl fun g => o_mv (evg rfl g)) ?_
        refine r_s (s_ggf rfl rfl fun g => o_fa fa33_0 rfl) ?_
        refine r_s (s_ggf rfl rfl fun g => o_ld 0 sc25 (evg rfl g) rfl rfl) ?_
        refine r_s (s_ggf rfl rfl fun g => o_bin (evg rfl g) rfl (bI_eq r27.1.E 2)) ?_
        refine r_s (s_gt rfl rfl fun g => o_or (evg rfl g) (evg2 rfl g)) ?_
        refine r_u (o_and rfl rfl) ?_
        refine r_u (o_as rfl) ?_
        refine r_nil ?_
        refine x_seq ?_
        refine c_ret ?_
        obtain rfl := Option.some.inj hm44
        refine ex_st (fun _ h => st_pk 6 [] (by decide) h) ?_
        exact x_r1 rfl (rv_t rfl) (Le.refl _) ⟨_, rfl, rfl, rfl, rfl⟩
      · refine c_if (b := decide (a0 < a2)) rfl (fun h46 => ?_) fun h46 => ?_
        · have hm47 := ift hp43 h46
          clear hp43
          refine c_reg ?_
          refine r_u (o_mv rfl) ?_
          refine r_u (o_mv rfl) ?_
          refine r_u (o_bin rfl rfl (bW_sub a2 a0)) ?_
          refine r_u (o_as rfl) ?_
          refine r_nil ?_
          obtain rfl := Option.some.inj hm47
          exact x_sub K45 ⟨rfl, rfl, rfl, rfl, rfl, trivial⟩ (fun _ h => st_pk 6 [0, 1, 5, 2, 3, 4] (by decide) h)
        · have hm47 := iff_ hp43 h46
          clear hp43
          refine c_skip ?_
          obtain rfl := Option.some.inj hm47
          exact x_sub K45 ⟨rfl, rfl, rfl, rfl, rfl, trivial⟩ (fun _ h => st_pk 6 [0, 1, 5, 2, 3, 4] (by decide) h)

def hawthornlaw12_StoreSessions_l0 (a0 : Int) (a1 : Str) : Nat → (Option store_Store) → Int → Option ((Option store_Store) ⊕ Bool)
  | 0, _, _ => none
  | k44 + 1, s_39, i_40 => if decide (i_40 < (i64 (62 + (iand a0 3)))) then om s_39 (none) fun x49 => (store_Store_Apply x49 (⟨toW (i64 (i_40 + 1)), 0, toW i_40, 1, (⟨2, a1, [118], 0, 0⟩ : api_Op)⟩ : api_Record)).bind fun r60 => if (((r60.2.1 != 0) || ((r60.1.E == 0) != (decide (i_40 < 64)))) || ((r60.1.E != 0) && (r60.1.E != 3))) then some (Sum.inr false) else hawthornlaw12_StoreSessions_l0 a0 a1 k44 (some r60.2.2) (i64 (i_40 + 1)) else some (Sum.inl s_39)
def hawthornlaw12_StoreSessions (a0 : Int) (a1 : Str) : Option Bool :=
  if (decide ((a1.length : Int) < 1) || decide (64 < (a1.length : Int))) then (hawthornlaw12_awake).bind fun r2 => some r2 else (store_New (⟨1, 4, 1000, 0⟩ : api_Config)).bind fun r4 => (hawthornlaw12_awake).bind fun r9 => if (!r9 || (r4.2 != 0)) then some false else Option.bind (hawthornlaw12_StoreSessions_l0 a0 a1 (((i64 (62 + (iand a0 3))) - 0).toNat + 1) r4.1 0) fun (p13 : (Option store_Store) ⊕ Bool) => (match p13 with | Sum.inl q14 => om q14 (none) fun x21 => (store_Store_Entries x21).bind fun r32 => if ((r32.length : Int) == 1) then (gi r32 0).bind fun x37 => some (x37.Version == (toW (if 64 < (i64 (62 + (iand a0 3))) then 64 else i64 (62 + (iand a0 3))))) else some false | Sum.inr r => some r)
theorem hawthornlaw12_StoreSessions.ok {G R F} (a0 : Int) (a1 : Str) (r : Bool) (hm : hawthornlaw12_StoreSessions a0 a1 = some r) : CO Try.prog 5 [vI a0, vS a1] G R (F)
    (Ret fun u R' L' => u = vB r ∧ R' = R ∧ L' = F) := by
  unfold hawthornlaw12_StoreSessions at hm
  refine co_ofN (N := 88) Try.func5 rfl rfl ?_
  refine c_seq ?_
  refine c_reg ?_
  refine r_u (o_as rfl) ?_
  refine r_nil ?_
  refine x_seq ?_
  refine c_seq ?_
  refine c_seq ?_
  refine c_reg ?_
  refine r_u (o_mv rfl) ?_
  refine r_u (o_lenS Try.underlying9 rfl) ?_
  refine r_u (o_bin rfl rfl (bI_lt (a1.length : Int) 1)) ?_
  refine r_u (o_mv rfl) ?_
  refine r_s (s_gf rfl rfl fun g => o_mv rfl) ?_
  refine r_s (s_gf rfl rfl fun g => o_lenS Try.underlying9 (evg rfl g)) ?_
  refine r_s (s_gf rfl rfl fun g => o_bin (evg rfl g) rfl (bI_gt (a1.length : Int) 64)) ?_
  refine r_u (o_or rfl rfl) ?_
  refine r_nil ?_
  refine x_seq ?_
  refine c_if (b := (decide ((a1.length : Int) < 1) || decide (64 < (a1.length : Int)))) rfl (fun h0 => ?_) fun h0 => ?_
  · have hm1 := ift hm h0
    clear hm
    refine c_seq ?_
    refine c_reg ?_
    obtain ⟨r2, hr2, hm3⟩ := bs hm1
    clear hm1
    refine r_u (o_callq ca6 rfl (hawthornlaw12_awake.ok r2 hr2)) ?_
    refine r_u (o_as rfl) ?_
    refine r_nil ?_
    refine x_seq ?_
    refine c_ret ?_
    obtain rfl := Option.some.inj hm3
    exact x_r1 rfl (rv_t rfl) (Le.refl _) ⟨_, rfl, rfl, rfl, rfl⟩
  · have hm1 := iff_ hm h0
    clear hm
    refine c_skip ?_
    refine x_seq ?_
    refine c_seq ?_
    refine c_reg ?_
    refine r_u (o_bld [vI 1, vI 4, vI 1000, vW 0] rfl (fun _ => by kernel_rfl)) ?_
    obtain ⟨r4, hr4, hm8⟩ := bs hm1
    clear hm1
    refine r_sw (s_w (o_call ca7 rfl (store_New.ok (⟨1, 4, 1000, 0⟩ : api_Config) r4 hr4))) ?_
    rintro _ R _ _ ⟨⟨pv6, g7⟩, rfl, rfl, rfl⟩
    refine r_u (o_mv rfl) ?_
    refine r_u (o_ext rfl rfl) ?_
    refine r_u (o_ext rfl rfl) ?_
    refine r_u (o_as rfl) ?_
    refine r_u (o_as rfl) ?_
    refine r_nil ?_
    refine x_seq ?_
    refine c_seq ?_
    refine c_seq ?_
    refine c_reg ?_
    obtain ⟨r9, hr9, hm10⟩ := bs hm8
    clear hm8
    refine r_u (o_callq ca6 rfl (hawthornlaw12_awake.ok r9 hr9)) ?_
    refine r_u (o_not rfl) ?_
    refine r_u (o_mv rfl) ?_
    refine r_s (s_gf rfl rfl fun g => o_mv rfl) ?_
    refine r_s (s_gf rfl rfl fun g => o_bin (evg rfl g) rfl (bI_ne r4.2 0)) ?_
    refine r_u (o_or rfl rfl) ?_
    refine r_nil ?_
    refine x_seq ?_
    refine c_if (b := (!r9 || (r4.2 != 0))) rfl (fun h11 => ?_) fun h11 => ?_
    · have hm12 := ift hm10 h11
      clear hm10
      refine c_seq ?_
      refine c_reg ?_
      refine r_u (o_as rfl) ?_
      refine r_nil ?_
      refine x_seq ?_
      refine c_ret ?_
      obtain rfl := Option.some.inj hm12
      refine ex_st (fun _ h => st_pk 1 [] (by decide) h) ?_
      exact x_r1 rfl (rv_t rfl) (Le.refl _) ⟨_, rfl, rfl, rfl, rfl⟩
    · have hm12 := iff_ hm10 h11
      clear hm10
      refine c_skip ?_
      refine x_seq ?_
      refine c_seq ?_
      refine c_reg ?_
      refine r_u (o_mv rfl) ?_
      refine r_u (o_bin rfl rfl (bI_and a0 3)) ?_
      refine r_u (o_bin rfl rfl (bI_add 62 (iand a0 3))) ?_
      refine r_u (o_as rfl) ?_
      refine r_nil ?_
      refine x_seq ?_
      refine c_seq ?_
      refine c_seq ?_
      refine c_reg ?_
      refine r_u (o_as rfl) ?_
      refine r_nil ?_
      refine x_seq ?_
      obtain ⟨p13, hp18, hm19⟩ := bs hm12
      refine cd_cut (fun x ks => ∀ (q14 : Option store_Store), ∀ (_ : p13 = Sum.inl q14), ∀ (pv15 : Value × store_Store.G), EX x .normal ks [(7, vI (i64 (62 + (iand a0 3)))), (5, pv15.1)] R (rO (store_Store.op pv15.2) pv15.1 q14 :: F)) ?_ fun K20 => ?_
      · intro q14 hq pv15
        subst hq
        try dsimp only at hm19
        obtain ⟨pv16, g17⟩ := pv15
        refine x_seq ?_
        refine c_seq ?_
        refine cd_opt (fun ho23 => ?_) (fun x21 b22 ho23 => ?_)
        · rintro rfl
          have hm24 := om_n hm19 ho23
          clear hm19
          cases hm24
        · rintro rfl
          have hm24 := om_s hm19 ho23
          clear hm19
          obtain ⟨⟨pv26, g27⟩, ⟨pv29, g30⟩, g31⟩ := g17
          refine cd_st (fun _ h => st_star_o h) ?_
          refine c_reg ?_
          refine r_u (o_mv rfl) ?_
          obtain ⟨r32, hr32, hm34⟩ := bs hm24
          clear hm24
          refine r_sw (s_w (o_call ca10 rfl (store_Store_Entries.ok b22 x21 (⟨(pv26, g27), (pv29, g30), g31⟩ : store_Store.G) r32 hr32))) ?_
          rintro v33 R _ _ ⟨_, rfl, rfl, rfl⟩
          refine r_u (o_as rfl) ?_
          refine r_nil ?_
          refine x_seq ?_
          refine c_seq ?_
          refine cd_by ((r32.length : Int) == 1) (fun h35 => ?_) fun h35 => ?_
          · have hm36 := ift hm34 h35
            clear hm34
            refine c_reg ?_
            refine r_u (o_mv rfl) ?_
            refine r_u (o_lenO 0 Try.underlying41 rfl rfl) ?_
            refine r_u (o_bin rfl rfl (bI_eq (r32.length : Int) 1)) ?_
            refine r_u (o_mv rfl) ?_
            refine r_s (s_y rfl rfl h35 (o_mv rfl)) ?_
            obtain ⟨x37, hx37, hm38⟩ := bs hm36
            clear hm36
            refine r_s (s_y rfl rfl h35 (o_ixO 0 Try.underlying41 (fun _ => by kernel_rfl) rfl rfl rfl hx37)) ?_
            refine r_s (s_y rfl rfl h35 (o_fa fa44_2 rfl)) ?_
            refine r_s (s_y rfl rfl h35 (o_ldO 0 2 sc22 rfl rfl hx37 rfl rfl)) ?_
            refine r_s (s_y rfl rfl h35 (o_mv rfl)) ?_
            refine r_s (s_y rfl rfl h35 (o_minI rfl rfl)) ?_
            refine r_s (s_y rfl rfl h35 (o_cv rfl (cIW Try.underlying3 Try.underlying22 (if 64 < (i64 (62 + (iand a0 3))) then 64 else i64 (62 + (iand a0 3)))))) ?_
            refine r_s (s_y rfl rfl h35 (o_bin rfl rfl (bW_eq x37.Version (toW (if 64 < (i64 (62 + (iand a0 3))) then 64 else i64 (62 + (iand a0 3))))))) ?_
            refine r_u (o_pt rfl h35 rfl) ?_
            refine r_u (o_as rfl) ?_
            refine r_nil ?_
            refine x_seq ?_
            refine c_ret ?_
            obtain rfl := Option.some.inj hm38
            refine ex_st (fun _ h => st_pk 5 [] (by decide) h) ?_
            exact x_r1 rfl (rv_t rfl) (Le.refl _) ⟨_, rfl, rfl, rfl, rfl⟩
          · have hm36 := iff_ hm34 h35
            clear hm34
            refine c_reg ?_
            refine r_u (o_mv rfl) ?_
            refine r_u (o_lenO 0 Try.underlying41 rfl rfl) ?_
            refine r_u (o_bin rfl rfl (bI_eq (r32.length : Int) 1)) ?_
            refine r_u (o_mv rfl) ?_
            refine r_s (s_n rfl rfl h35) ?_
            refine r_s (s_n rfl rfl h35) ?_
            refine r_s (s_n rfl rfl h35) ?_
            refine r_s (s_n rfl rfl h35) ?_
            refine r_s (s_n rfl rfl h35) ?_
            refine r_s (s_n rfl rfl h35) ?_
            refine r_s (s_n rfl rfl h35) ?_
            refine r_s (s_n rfl rfl h35) ?_
            refine r_u (o_pf rfl h35 rfl) ?_
            refine r_u (o_as rfl) ?_
            refine r_nil ?_
            refine x_seq ?_
            refine c_ret ?_
            obtain rfl := Option.some.inj hm36
            refine ex_st (fun _ h => st_pk 5 [] (by decide) h) ?_
            exact x_r1 rfl (rv_t rfl) (Le.refl _) ⟨_, rfl, rfl, rfl, rfl⟩
      · refine c_blk ?_
        refine cd_loopG (M := fun k44 (s : Option store_Store × Int × (Value × store_Store.G)) => hawthornlaw12_StoreSessions_l0 a0 a1 k44 s.1 s.2.1 = some p13) (Ef := fun (s : Option store_Store × Int × (Value × store_Store.G)) => [(1, vS a1), (7, vI (i64 (62 + (iand a0 3)))), (5, s.2.2.1), (8, vI s.2.1)]) (Rf := fun (s : Option store_Store × Int × (Value × store_Store.G)) => R) (Lf := fun (s : Option store_Store × Int × (Value × store_Store.G)) => rO (store_Store.op s.2.2.2) s.2.2.1 s.1 :: F) (((i64 (62 + (iand a0 3))) - 0).toNat + 1) (r4.1, 0, (pv6, g7)) hp18 ⟨rfl, rfl, rfl, rfl, trivial⟩ (fun _ h => st_pk 1 [0] (by decide) h) (fun _ h => by cases h) fun k44 s hM46 => ?_
        obtain ⟨s_39, i_40, pv41⟩ := s
        have hm45 : hawthornlaw12_StoreSessions_l0 a0 a1 (k44 + 1) s_39 i_40 = some p13 := hM46
        rw [hawthornlaw12_StoreSessions_l0] at hm45
        obtain ⟨pv42, g43⟩ := pv41
        refine c_seq ?_
        refine c_seq ?_
        refine c_reg ?_
        refine r_u (o_mv rfl) ?_
        refine r_u (o_mv rfl) ?_
        refine r_u (o_bin rfl rfl (bI_lt i_40 (i64 (62 + (iand a0 3))))) ?_
        refine r_nil ?_
        refine x_seq ?_
        refine c_if (b := decide (i_40 < (i64 (62 + (iand a0 3))))) rfl (fun h47 => ?_) fun h47 => ?_
        · have hm48 := ift hm45 h47
          clear hm45
          refine c_skip ?_
          refine x_seq ?_
          refine c_seq ?_
          refine c_blk ?_
          refine c_seq ?_
          refine cd_opt (fun ho51 => ?_) (fun x49 b50 ho51 => ?_)
          · rintro rfl
            have hm52 := om_n hm48 ho51
            clear hm48
            cases hm52
          · rintro rfl
            have hm52 := om_s hm48 ho51
            clear hm48
            obtain ⟨⟨pv54, g55⟩, ⟨pv57, g58⟩, g59⟩ := g43
            refine cd_st (fun _ h => st_star_o h) ?_
            refine c_reg ?_
            refine r_u (o_mv rfl) ?_
            refine r_u (o_mv rfl) ?_
            refine r_u (o_bin rfl rfl (bI_add i_40 1)) ?_
            refine r_u (o_cv rfl (cIW Try.underlying3 Try.underlying22 (i64 (i_40 + 1)))) ?_
            refine r_u (o_mv rfl) ?_
            refine r_u (o_cv rfl (cIW Try.underlying3 Try.underlying22 i_40)) ?_
            refine r_u (o_mv rfl) ?_
            refine r_u (o_bld [vI 2, vS a1, vS [118], vW 0, vW 0] rfl (fun _ => by kernel_rfl)) ?_
            refine r_u (o_bld [vW (toW (i64 (i_40 + 1))), vW 0, vW (toW i_40), vW 1, vI 2, vS a1, vS [118], vW 0, vW 0] rfl (fun _ => by kernel_rfl)) ?_
            obtain ⟨r60, hr60, hm69⟩ := bs hm52
            clear hm52
            refine r_sw (s_w (o_call ca9 rfl (store_Store_Apply.ok b50 x49 (⟨(pv54, g55), (pv57, g58), g59⟩ : store_Store.G) (⟨toW (i64 (i_40 + 1)), 0, toW i_40, 1, (⟨2, a1, [118], 0, 0⟩ : api_Op)⟩ : api_Record) r60 hr60))) ?_
            rintro _ R _ _ ⟨⟨⟨pv63, g64⟩, ⟨pv66, g67⟩, g68⟩, rfl, rfl, rfl⟩
            refine r_u (o_mv rfl) ?_
            refine r_u (o_ext rfl rfl) ?_
            refine r_u (o_ext rfl rfl) ?_
            refine r_new (o_al ze33) fun b70 => ?_
            refine r_u0 (o_stn ag33 rfl rfl rfl rfl rfl rfl rfl) ?_
            refine r_u (o_as rfl) ?_
            refine r_nil ?_
            refine x_seq ?_
            refine c_seq ?_
            refine c_reg ?_
            refine r_u (o_mv rfl) ?_
            refine r_u (o_bin rfl rfl (bI_ne r60.2.1 0)) ?_
            refine r_u (o_mv rfl) ?_
            refine r_s (s_gf rfl rfl fun g => o_fa fa33_0 rfl) ?_
            refine r_s (s_gf rfl rfl fun g => o_ld 0 sc25 (evg rfl g) rfl rfl) ?_
            refine r_s (s_gf rfl rfl fun g => o_bin (evg rfl g) rfl (bI_eq r60.1.E 0)) ?_
            refine r_s (s_gf rfl rfl fun g => o_mv rfl) ?_
            refine r_s (s_gf rfl rfl fun g => o_bin (evg rfl g) rfl (bI_lt i_40 64)) ?_
            refine r_s (s_gf rfl rfl fun g => o_bin (evg rfl g) (evg rfl g) (bB_ne Try.underlying4 (r60.1.E == 0) (decide (i_40 < 64)))) ?_
            refine r_u (o_or rfl rfl) ?_
            refine r_u (o_mv rfl) ?_
            refine r_s (s_gf rfl rfl fun g => o_fa fa33_0 rfl) ?_
            refine r_s (s_gf rfl rfl fun g => o_ld 0 sc25 (evg rfl g) rfl rfl) ?_
            refine r_s (s_gf rfl rfl fun g => o_bin (evg rfl g) rfl (bI_ne r60.1.E 0)) ?_
            refine r_s (s_gf rfl rfl fun g => o_mv (evg rfl g)) ?_
            refine r_s (s_ggt rfl rfl fun g => o_fa fa33_0 rfl) ?_
            refine r_s (s_ggt rfl rfl fun g => o_ld 0 sc25 (evg rfl g) rfl rfl) ?_
            refine r_s (s_ggt rfl rfl fun g => o_bin (evg rfl g) rfl (bI_ne r60.1.E 3)) ?_
            refine r_s (s_gf rfl rfl fun g => o_and (evg rfl g) (evg2 rfl g)) ?_
            refine r_u (o_or rfl rfl) ?_
            refine r_nil ?_
            refine x_seq ?_
            refine c_if (b := (((r60.2.1 != 0) || ((r60.1.E == 0) != (decide (i_40 < 64)))) || ((r60.1.E != 0) && (r60.1.E != 3)))) rfl (fun h71 => ?_) fun h71 => ?_
            · have hm72 := ift hm69 h71
              clear hm69
              refine c_seq ?_
              refine c_reg ?_
              refine r_u (o_as rfl) ?_
              refine r_nil ?_
              refine x_seq ?_
              refine c_ret ?_
              obtain rfl := Option.some.inj hm72
              try dsimp only at hm19
              obtain rfl := Option.some.inj hm19
              refine ex_st (fun _ h => st_pk 5 [] (by decide) h) ?_
              exact x_r1 rfl (rv_t rfl) (Le.refl _) ⟨_, rfl, rfl, rfl, rfl⟩
            · have hm72 := iff_ hm69 h71
              clear hm69
              refine c_skip ?_
              refine x_blk ?_
              refine x_seq ?_
              refine c_reg ?_
              refine r_u (o_mv rfl) ?_
              refine r_u (o_bin rfl rfl (bI_add i_40 1)) ?_
              refine r_u (o_as rfl) ?_
              refine r_nil ?_
              refine ex_st (fun _ h => mv4 (mv4 (mv4 (mv4 h)))) ?_
              refine ex_st (fun _ h => st_some (f := store_Store.op (⟨(pv63, g64), (pv66, g67), g68⟩ : store_Store.G)) (a := r60.2.2) (st_star_f (A := store_Store.fl b50 r60.2.2 (⟨(pv63, g64), (pv66, g67), g68⟩ : store_Store.G)) h)) ?_
              exact x_lp ((some r60.2.2), i64 (i_40 + 1), (pt b50 0, (⟨(pv63, g64), (pv66, g67), g68⟩ : store_Store.G))) hm72 ⟨rfl, rfl, rfl, rfl, trivial⟩ (fun _ h => st_pk 2 [0] (by decide) h)
        · have hm48 := iff_ hm45 h47
          clear hm45
          refine c_exit (x_exit (ks' := _) rfl ?_)
          obtain rfl := Option.some.inj hm48
          exact x_sub (K20 _ rfl (pv42, g43)) ⟨rfl, rfl, trivial⟩ (fun _ h => st_pk 1 [0] (by decide) h)

end Go.Proofs.Ytpanhdnglicknaa
