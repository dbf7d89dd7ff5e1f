import Derived.Test.YtpanhdnglicknaaW6
import Derived.Test.YtpanhdnglicknaaFacts
import Derived.Test.YtpanhdnglicknaaHwZ
set_option linter.unusedVariables false
set_option linter.unusedSectionVars false
set_option linter.unusedSimpArgs false
set_option maxRecDepth 100000
set_option maxHeartbeats 8000000
namespace Go.Proofs.Ytpanhdnglicknaa
open Go Go.Proofs.Ytpanhdnglicknaa.Hw
def store_Store_put_l0 (a0 : store_Store) : Nat → policy_Policy → Int → (List (Str × api_Entry)) → Option (policy_Policy × Int × (List (Str × api_Entry)))
  | 0, _, _, _ => none
  | k68 + 1, c_58, c_59, c_60 => if decide (a0.c.Bytes < (table_Table_Bytes (⟨c_60, c_59⟩ : table_Table))) then (policy_Policy_Evict c_58).bind fun r73 => if !r73.2.1 then some (r73.2.2, c_59, c_60) else lt (table_Table_Drop (⟨c_60, c_59⟩ : table_Table) r73.1) fun r84 => store_Store_put_l0 a0 k68 r73.2.2 r84.2.bytes r84.2.m else some (c_58, c_59, c_60)
def store_Store_put_l1 (r33 : List Str × policy_Policy) : Nat → Int → Int → (List (Str × api_Entry)) → Option (Int × (List (Str × api_Entry)))
  | 0, _, _, _ => none
  | k89 + 1, s_86, c_87, c_88 => if decide (s_86 < (r33.1.length : Int)) then (gi r33.1 s_86).bind fun x94 => lt (table_Table_Drop (⟨c_88, c_87⟩ : table_Table) x94) fun r96 => store_Store_put_l1 r33 k89 (i64 (s_86 + 1)) r96.2.bytes r96.2.m else some (c_87, c_88)
def store_Store_put (a0 : store_Store) (a1 : api_Op) : Option (api_Reply × store_Store) :=
  if decide (a0.c.Bytes < (i64 ((a1.Key.length : Int) + (a1.Value.length : Int)))) then some ((⟨120, [], 0⟩ : api_Reply), a0) else Option.bind (if (decide (0 < a1.TTL) && decide (a0.now < 18446744073709551615)) then some (a0.now + (if (18446744073709551615 - a0.now) < a1.TTL then 18446744073709551615 - a0.now else a1.TTL)) else some 0) fun p12 => om a0.t (none) fun x16 => lt (table_Table_Put x16 (⟨a1.Key, a1.Value, a0.version + 1, p12⟩ : api_Entry)) fun r21 => om a0.p (none) fun x23 => (policy_Policy_Insert x23 a1.Key).bind fun r33 => Option.bind (store_Store_put_l1 r33 (((r33.1.length : Int) - 0).toNat + 1) 0 r21.bytes r21.m) fun p43 => Option.bind (store_Store_put_l0 a0 1100 r33.2 p43.1 p43.2) fun p47 => some ((⟨0, [], a0.version + 1⟩ : api_Reply), (⟨a0.c, (some (⟨p47.2.2, p47.2.1⟩ : table_Table)), (some p47.1), a0.sessions, a0.seq, a0.now, a0.version + 1, a0.tally⟩ : store_Store))
theorem store_Store_put.ok {G R F} (b0_ : Nat) (a0 : store_Store) (g0_ : store_Store.G) (a1 : api_Op) (r : api_Reply × store_Store) (hm : store_Store_put a0 a1 = some r) : CO Try.prog 32 [pt b0_ 0, .agg (api_Op.c a1).toArray] G R (Bk b0_ 57 [vI a0.c.Policy, vI a0.c.Entries, vI a0.c.Bytes, vW a0.c.Seed, g0_.t.1, g0_.p.1, g0_.sessions, vW a0.seq, vW a0.now, vW a0.version, vI a0.tally.Asked, vI a0.tally.Hits] :: rO (table_Table.op g0_.t.2) g0_.t.1 a0.t :: rO (policy_Policy.op g0_.p.2) g0_.p.1 a0.p :: OwM vW store_last.v g0_.sessions a0.sessions :: F)
    (Ret fun u R' L' => ∃ (q0 : store_Store.G), u = .agg (api_Reply.c r.1).toArray ∧ R' = R ∧ L' = Bk b0_ 57 [vI r.2.c.Policy, vI r.2.c.Entries, vI r.2.c.Bytes, vW r.2.c.Seed, q0.t.1, q0.p.1, q0.sessions, vW r.2.seq, vW r.2.now, vW r.2.version, vI r.2.tally.Asked, vI r.2.tally.Hits] :: rO (table_Table.op q0.t.2) q0.t.1 r.2.t :: rO (policy_Policy.op q0.p.2) q0.p.1 r.2.p :: OwM vW store_last.v q0.sessions r.2.sessions :: F) := by
  obtain ⟨⟨pv1, g2⟩, ⟨pv4, g5⟩, g6⟩ := g0_
  unfold store_Store_put at hm
  refine co_ofN (N := 121) Try.func32 rfl rfl ?_
  refine c_seq ?_
  refine c_reg ?_
  refine r_new (o_bx (api_Op.c a1) rfl rfl) fun b7 => ?_
  refine r_new (o_al ze33) fun b8 => ?_
  refine r_nil ?_
  refine x_seq ?_
  refine c_seq ?_
  refine c_seq ?_
  refine c_any mixed (effs := []) (V := []) ?_
  refine stage_ext [(0, pt b7 1), (1, vS a1.Key), (2, vI (a1.Key.length : Int)), (3, pt b7 2), (4, vS a1.Value), (5, vI (a1.Value.length : Int)), (6, vI (i64 ((a1.Key.length : Int) + (a1.Value.length : Int)))), (7, pt b0_ 0), (8, pt b0_ 0), (9, pt b0_ 0), (10, pt b0_ 2), (11, vI a0.c.Bytes), (12, vB (decide (a0.c.Bytes < (i64 ((a1.Key.length : Int) + (a1.Value.length : Int))))))] rfl ?_
  refine stage rfl rfl rfl rfl [0, 1, 3, 0, 8, 24, 63, 0, 128, 384, 896, 1920, 4095] [0, 1, 2, 3, 4, 5, 6, 7, 8, 9, 10, 11, 12] [] rfl rfl rfl (qc rfl rfl (s_u (o_fa fa31_1 rfl)) (qc rfl rfl (s_u (o_ld 1 sc9 rfl rfl rfl)) (qc rfl rfl (s_u (o_lenS Try.underlying9 rfl)) (qc rfl rfl (s_u (o_fa fa31_2 rfl)) (qc rfl rfl (s_u (o_ld 1 sc9 rfl rfl rfl)) (qc rfl rfl (s_u (o_lenS Try.underlying9 rfl)) (qc rfl rfl (s_u (o_bin rfl rfl (bI_add (a1.Key.length : Int) (a1.Value.length : Int)))) (qc rfl rfl (s_u (o_mv rfl)) (qc rfl rfl (s_u (o_nc rfl)) (qc rfl rfl (s_u (o_fa fa57_0 rfl)) (qc rfl rfl (s_u (o_fa fa29_2 rfl)) (qc rfl rfl (s_u (o_ld 2 sc3 rfl rfl rfl)) (qc rfl rfl (s_u (o_bin rfl rfl (bI_gt (i64 ((a1.Key.length : Int) + (a1.Value.length : Int))) a0.c.Bytes))) qn))))))))))))) en ?_
  intro _
  refine ex_sub (E' := [(0, pt b0_ 0), (3, pt b7 0), (4, pt b8 0), (22, vB (decide (a0.c.Bytes < (i64 ((a1.Key.length : Int) + (a1.Value.length : Int))))))]) ⟨rfl, rfl, rfl, rfl, trivial⟩ ?_
  refine x_seq ?_
  refine c_if (b := decide (a0.c.Bytes < (i64 ((a1.Key.length : Int) + (a1.Value.length : Int))))) rfl (fun h9 => ?_) fun h9 => ?_
  · have hm10 := ift hm h9
    clear hm
    refine c_seq ?_
    refine c_reg ?_
    refine r_u (o_bld [vI 120, vS [], vW 0] rfl (fun _ => by kernel_rfl)) ?_
    refine r_u0 (o_stn ag33 rfl rfl rfl rfl rfl rfl rfl) ?_
    refine r_nil ?_
    refine x_seq ?_
    refine c_ret ?_
    obtain rfl := Option.some.inj hm10
    exact x_d1 rfl (rv_n 0 [vI 120, vS [], vW 0] ag33 rfl rfl rfl rfl) (fun _ h => st_pk 6 [2, 3, 4, 5] (by decide) h) (Le.refl _) ⟨_, rfl, (⟨(pv1, g2), (pv4, g5), g6⟩ : store_Store.G), rfl, rfl, rfl⟩
  · have hm10 := iff_ hm h9
    clear hm
    refine c_skip ?_
    refine x_seq ?_
    refine c_seq ?_
    refine c_reg ?_
    refine r_u (o_mv rfl) ?_
    refine r_u (o_nc rfl) ?_
    refine r_u (o_fa fa57_6 rfl) ?_
    refine r_u (o_ld 2 sc22 rfl rfl rfl) ?_
    refine r_u (o_bin rfl rfl (bW_add a0.version 1)) ?_
    refine r_u (o_nc rfl) ?_
    refine r_u (o_fa fa57_6 rfl) ?_
    refine rl_st (fun _ h => mv2 h) ?_
    refine r_u0 (o_st sc22 rfl rfl rfl rfl rfl rfl) ?_
    refine r_nil ?_
    refine x_seq ?_
    refine c_seq ?_
    refine c_any mixed (effs := [9, 10]) (V := []) ?_
    refine stage_ext [(0, pt b7 1), (1, vS a1.Key), (2, pt b7 2), (3, vS a1.Value), (4, pt b0_ 0), (5, pt b0_ 0), (6, pt b0_ 9), (7, vW (a0.version + 1)), (8, .agg [vS a1.Key, vS a1.Value, vW (a0.version + 1), vW 0].toArray)] rfl ?_
    refine stage rfl rfl rfl rfl [0, 1, 0, 4, 0, 16, 48, 112, 255, 0, 1023] [0, 1, 2, 3, 4, 5, 6, 7, 8] [9] rfl rfl rfl (qc rfl rfl (s_u (o_fa fa31_1 rfl)) (qc rfl rfl (s_u (o_ld 2 sc9 rfl rfl rfl)) (qc rfl rfl (s_u (o_fa fa31_2 rfl)) (qc rfl rfl (s_u (o_ld 2 sc9 rfl rfl rfl)) (qc rfl rfl (s_u (o_mv rfl)) (qc rfl rfl (s_u (o_nc rfl)) (qc rfl rfl (s_u (o_fa fa57_6 rfl)) (qc rfl rfl (s_u (o_ld 0 sc22 rfl rfl rfl)) (qc rfl rfl (s_u (o_bld [vS a1.Key, vS a1.Value, vW (a0.version + 1), vW 0] rfl (fun _ => by kernel_rfl))) qn))))))))) ?_ (fun h => absurd h (by decide))
    refine ec (eo_n rfl (s_w (o_al ze44)) fun b11 => ?_) en
    refine stage rfl rfl rfl rfl [0, 1, 0, 4, 0, 16, 48, 112, 255, 0, 1023] [0, 1, 2, 3, 4, 5, 6, 7, 8] [10] rfl rfl rfl (qc rfl rfl (s_u (o_fa fa31_1 rfl)) (qc rfl rfl (s_u (o_ld 3 sc9 rfl rfl rfl)) (qc rfl rfl (s_u (o_fa fa31_2 rfl)) (qc rfl rfl (s_u (o_ld 3 sc9 rfl rfl rfl)) (qc rfl rfl (s_u (o_mv rfl)) (qc rfl rfl (s_u (o_nc rfl)) (qc rfl rfl (s_u (o_fa fa57_6 rfl)) (qc rfl rfl (s_u (o_ld 1 sc22 rfl rfl rfl)) (qc rfl rfl (s_u (o_bld [vS a1.Key, vS a1.Value, vW (a0.version + 1), vW 0] rfl (fun _ => by kernel_rfl))) qn))))))))) ?_ (fun h => absurd h (by decide))
    refine ec (eo_u rfl (s_u (o_stn ag44 rfl rfl rfl rfl rfl rfl rfl)) (Le.refl _) ?_) en
    refine stage rfl rfl rfl rfl [0, 1, 0, 4, 0, 16, 48, 112, 255, 0, 1023] [] [] rfl rfl rfl qn en ?_
    intro _
    refine ex_sub (E' := [(0, pt b0_ 0), (3, pt b7 0), (4, pt b8 0), (5, pt b11 0)]) ⟨rfl, rfl, rfl, rfl, trivial⟩ ?_
    refine x_seq ?_
    refine c_seq ?_
    refine c_seq ?_
    refine c_reg ?_
    refine r_u (o_fa fa31_3 rfl) ?_
    refine r_u (o_ld 3 sc22 rfl rfl rfl) ?_
    refine r_u (o_bin rfl rfl (bW_gt a1.TTL 0)) ?_
    refine r_u (o_mv rfl) ?_
    refine r_s (s_gt rfl rfl fun g => o_mv rfl) ?_
    refine r_s (s_gt rfl rfl fun g => o_nc (evg rfl g)) ?_
    refine r_s (s_gt rfl rfl fun g => o_fa fa57_5 (evg rfl g)) ?_
    refine r_s (s_gt rfl rfl fun g => o_ld 1 sc22 (evg rfl g) rfl rfl) ?_
    refine r_s (s_gt rfl rfl fun g => o_bin (evg rfl g) rfl (bW_lt a0.now 18446744073709551615)) ?_
    refine r_u (o_and rfl rfl) ?_
    refine r_nil ?_
    refine x_seq ?_
    obtain ⟨p12, hp13, hm14⟩ := bs hm10
    refine cd_join (E' := [(0, pt b0_ 0), (3, pt b7 0), (4, pt b8 0), (5, pt b11 0)]) (L' := Bk b11 44 [vS a1.Key, vS a1.Value, vW (a0.version + 1), vW p12] :: Bk b0_ 57 [vI a0.c.Policy, vI a0.c.Entries, vI a0.c.Bytes, vW a0.c.Seed, pv1, pv4, g6, vW a0.seq, vW a0.now, vW (a0.version + 1), vI a0.tally.Asked, vI a0.tally.Hits] :: Bk b8 33 [vI 0, vS [], vW 0] :: Bk b7 31 (api_Op.c a1) :: rO (table_Table.op g2) pv1 a0.t :: rO (policy_Policy.op g5) pv4 a0.p :: OwM vW store_last.v g6 a0.sessions :: F) ?_ fun K15 => ?_
    · refine x_seq ?_
      refine c_seq ?_
      refine cd_st (fun _ h => mv4 h) ?_
      refine cd_opt (fun ho18 => ?_) (fun x16 b17 ho18 => ?_)
      · rintro rfl
        have hm19 := om_n hm14 ho18
        clear hm14
        cases hm19
      · rintro rfl
        have hm19 := om_s hm14 ho18
        clear hm14
        refine cd_st (fun _ h => st_star_o h) ?_
        obtain ⟨r21, hr21, hm22⟩ := ltx hm19
        clear hm19
        refine c_any mixed (effs := [5]) (V := []) ?_
        refine stage_ext [(0, pt b0_ 0), (1, pt b0_ 0), (2, pt b0_ 4), (3, pt b17 0), (4, .agg [vS a1.Key, vS a1.Value, vW (a0.version + 1), vW p12].toArray)] rfl ?_
        refine stage rfl rfl rfl rfl [0, 1, 3, 7, 0, 31] [0, 1, 2, 3, 4] [5] rfl rfl rfl (qc rfl rfl (s_u (o_mv rfl)) (qc rfl rfl (s_u (o_nc rfl)) (qc rfl rfl (s_u (o_fa fa57_1 rfl)) (qc rfl rfl (s_u (o_ld 3 sc51 rfl rfl rfl)) (qc rfl rfl (s_u (o_ldn 2 [vS a1.Key, vS a1.Value, vW (a0.version + 1), vW p12] ag44 rfl rfl rfl rfl)) qn))))) ?_ (fun h => absurd h (by decide))
        refine ec (eo_c rfl (s_w (o_call ca45 rfl (table_Table_Put.ok b17 x16 g2 (⟨a1.Key, a1.Value, a0.version + 1, p12⟩ : api_Entry) r21 hr21))) ?_) en
        refine stage rfl rfl rfl rfl [0, 1, 3, 7, 0, 31] [] [] rfl rfl rfl qn en ?_
        intro _
        refine ex_sub (E' := [(0, pt b0_ 0), (3, pt b7 0), (4, pt b8 0)]) ⟨rfl, rfl, rfl, trivial⟩ ?_
        refine x_seq ?_
        refine c_seq ?_
        refine c_seq ?_
        refine cd_st (fun _ h => mv6 h) ?_
        refine cd_opt (fun ho25 => ?_) (fun x23 b24 ho25 => ?_)
        · rintro rfl
          have hm26 := om_n hm22 ho25
          clear hm22
          cases hm26
        · rintro rfl
          have hm26 := om_s hm22 ho25
          clear hm22
          obtain ⟨⟨pv28, g29⟩, ⟨pv31, g32⟩⟩ := g5
          refine cd_st (fun _ h => st_star_o h) ?_
          obtain ⟨r33, hr33, hm42⟩ := bs hm26
          clear hm26
          refine c_any mixed (effs := [6]) (V := []) ?_
          refine stage_ext [(0, pt b0_ 0), (1, pt b0_ 0), (2, pt b0_ 5), (3, pt b24 0), (4, pt b7 1), (5, vS a1.Key), (8, vI 0)] rfl ?_
          refine stage rfl rfl rfl rfl [0, 1, 3, 7, 0, 16, 63, 127, 0] [0, 1, 2, 3, 4, 5, 8] [6] rfl rfl rfl (qc rfl rfl (s_u (o_mv rfl)) (qc rfl rfl (s_u (o_nc rfl)) (qc rfl rfl (s_u (o_fa fa57_2 rfl)) (qc rfl rfl (s_u (o_ld 6 sc48 rfl rfl rfl)) (qc rfl rfl (s_u (o_fa fa31_1 rfl)) (qc rfl rfl (s_u (o_ld 8 sc9 rfl rfl rfl)) (qc rfl rfl (s_u (o_mv rfl)) qn))))))) ?_ (fun h => absurd h (by decide))
          refine ec (eo_w rfl (s_w (o_call ca46 rfl (policy_Policy_Insert.ok b24 x23 (⟨(pv28, g29), (pv31, g32)⟩ : policy_Policy.G) a1.Key r33 hr33))) ?_) en
          rintro v34 R _ _ ⟨_, ⟨⟨pv37, g38⟩, ⟨pv40, g41⟩⟩, rfl, rfl, rfl⟩
          refine stage_ext [(7, vI (r33.1.length : Int))] rfl ?_
          refine stage rfl rfl rfl rfl [0, 1, 3, 7, 0, 16, 63, 127, 0] [7, 8] [] rfl rfl rfl (qc rfl rfl (s_u (o_lenO 0 Try.underlying59 rfl rfl)) (qc rfl rfl (s_u (o_mv rfl)) qn)) en ?_
          intro _
          refine ex_sub (E' := [(0, pt b0_ 0), (4, pt b8 0), (76, v34), (77, vI (r33.1.length : Int)), (78, vI 0)]) ⟨rfl, rfl, rfl, rfl, rfl, trivial⟩ ?_
          refine x_seq ?_
          obtain ⟨p43, hp44, hm45⟩ := bs hm42
          refine cd_join (E' := [(0, pt b0_ 0), (4, pt b8 0)]) (L' := Bk b24 72 [vI r33.2.kind, pv37, pv40] :: Bk b17 79 [g2.m, vI p43.1] :: Bk b11 44 [vS a1.Key, vS a1.Value, vW (a0.version + 1), vW p12] :: Bk b0_ 57 [vI a0.c.Policy, vI a0.c.Entries, vI a0.c.Bytes, vW a0.c.Seed, pt b17 0, pt b24 0, g6, vW a0.seq, vW a0.now, vW (a0.version + 1), vI a0.tally.Asked, vI a0.tally.Hits] :: Bk b8 33 [vI 0, vS [], vW 0] :: Bk b7 31 (api_Op.c a1) :: OwS true 9 1 eS v34 r33.1 :: rO (arc_Arc.op g38) pv37 r33.2.a :: rO (tiny_Tiny.op g41) pv40 r33.2.t :: OwM vS api_Entry.v g2.m p43.2 :: OwM vW store_last.v g6 a0.sessions :: F) ?_ fun K46 => ?_
          · refine x_seq ?_
            refine c_seq ?_
            obtain ⟨p47, hp55, hm56⟩ := bs hm45
            refine cd_cut (fun x ks => ∀ (g48 : policy_Policy.G), EX x .normal ks [(0, pt b0_ 0), (4, pt b8 0)] R (Bk b24 72 [vI p47.1.kind, g48.a.1, g48.t.1] :: Bk b17 79 [g2.m, vI p47.2.1] :: Bk b11 44 [vS a1.Key, vS a1.Value, vW (a0.version + 1), vW p12] :: Bk b0_ 57 [vI a0.c.Policy, vI a0.c.Entries, vI a0.c.Bytes, vW a0.c.Seed, pt b17 0, pt b24 0, g6, vW a0.seq, vW a0.now, vW (a0.version + 1), vI a0.tally.Asked, vI a0.tally.Hits] :: Bk b8 33 [vI 0, vS [], vW 0] :: Bk b7 31 (api_Op.c a1) :: OwS true 9 1 eS v34 r33.1 :: OwM vS api_Entry.v g2.m p47.2.2 :: OwM vW store_last.v g6 a0.sessions :: rO (arc_Arc.op g48.a.2) g48.a.1 p47.1.a :: rO (tiny_Tiny.op g48.t.2) g48.t.1 p47.1.t :: F)) ?_ fun K57 => ?_
            · intro g48
              obtain ⟨⟨pv50, g51⟩, ⟨pv53, g54⟩⟩ := g48
              refine x_seq ?_
              refine c_seq ?_
              refine c_reg ?_
              refine r_u (o_mv rfl) ?_
              refine r_u (o_nc rfl) ?_
              refine r_u (o_fa fa57_6 rfl) ?_
              refine r_u (o_ld 3 sc22 rfl rfl rfl) ?_
              refine r_u (o_bld [vI 0, vS [], vW (a0.version + 1)] rfl (fun _ => by kernel_rfl)) ?_
              refine rl_st (fun _ h => mv4 h) ?_
              refine r_u0 (o_stn ag33 rfl rfl rfl rfl rfl rfl rfl) ?_
              refine r_nil ?_
              refine x_seq ?_
              refine c_ret ?_
              refine ex_st (fun _ h => mv3 (mv7 h)) ?_
              refine ex_st (fun _ h => st_some (f := table_Table.op g2) (a := (⟨p47.2.2, p47.2.1⟩ : table_Table)) (st_star_f (A := table_Table.fl b17 (⟨p47.2.2, p47.2.1⟩ : table_Table) g2) h)) ?_
              refine ex_st (fun _ h => mv4 (mv9 (mv9 h))) ?_
              refine ex_st (fun _ h => st_some (f := policy_Policy.op (⟨(pv50, g51), (pv53, g54)⟩ : policy_Policy.G)) (a := p47.1) (st_star_f (A := policy_Policy.fl b24 p47.1 (⟨(pv50, g51), (pv53, g54)⟩ : policy_Policy.G)) h)) ?_
              obtain rfl := Option.some.inj hm56
              exact x_d1 rfl (rv_n 2 [vI 0, vS [], vW (a0.version + 1)] ag33 rfl rfl rfl rfl) (fun _ h => st_pk 8 [4, 1, 0, 7] (by decide) h) (Le.refl _) ⟨_, rfl, (⟨(pt b17 0, g2), (pt b24 0, (⟨(pv50, g51), (pv53, g54)⟩ : policy_Policy.G)), g6⟩ : store_Store.G), rfl, rfl, rfl⟩
            · refine c_blk ?_
              refine cd_loopG (M := fun k68 (s : policy_Policy × Int × (List (Str × api_Entry)) × policy_Policy.G) => store_Store_put_l0 a0 k68 s.1 s.2.1 s.2.2.1 = some p47) (Ef := fun (s : policy_Policy × Int × (List (Str × api_Entry)) × policy_Policy.G) => [(0, pt b0_ 0), (4, pt b8 0)]) (Rf := fun (s : policy_Policy × Int × (List (Str × api_Entry)) × policy_Policy.G) => R) (Lf := fun (s : policy_Policy × Int × (List (Str × api_Entry)) × policy_Policy.G) => Bk b24 72 [vI s.1.kind, s.2.2.2.a.1, s.2.2.2.t.1] :: Bk b17 79 [g2.m, vI s.2.1] :: Bk b11 44 [vS a1.Key, vS a1.Value, vW (a0.version + 1), vW p12] :: Bk b0_ 57 [vI a0.c.Policy, vI a0.c.Entries, vI a0.c.Bytes, vW a0.c.Seed, pt b17 0, pt b24 0, g6, vW a0.seq, vW a0.now, vW (a0.version + 1), vI a0.tally.Asked, vI a0.tally.Hits] :: Bk b8 33 [vI 0, vS [], vW 0] :: Bk b7 31 (api_Op.c a1) :: OwS true 9 1 eS v34 r33.1 :: OwM vS api_Entry.v g2.m s.2.2.1 :: OwM vW store_last.v g6 a0.sessions :: rO (arc_Arc.op s.2.2.2.a.2) s.2.2.2.a.1 s.1.a :: rO (tiny_Tiny.op s.2.2.2.t.2) s.2.2.2.t.1 s.1.t :: F) 1100 (r33.2, p43.1, p43.2, (⟨(pv37, g38), (pv40, g41)⟩ : policy_Policy.G)) hp55 ⟨rfl, rfl, trivial⟩ (fun _ h => st_pk 11 [0, 1, 2, 3, 4, 5, 6, 9, 10, 7, 8] (by decide) h) (fun _ h => by cases h) fun k68 s hM70 => ?_
              obtain ⟨c_58, c_59, c_60, g61⟩ := s
              have hm69 : store_Store_put_l0 a0 (k68 + 1) c_58 c_59 c_60 = some p47 := hM70
              rw [store_Store_put_l0] at hm69
              obtain ⟨⟨pv63, g64⟩, ⟨pv66, g67⟩⟩ := g61
              refine c_seq ?_
              refine c_seq ?_
              refine c_any mixed (effs := []) (V := []) ?_
              refine stage_ext [(0, pt b0_ 0), (1, pt b0_ 0), (2, pt b0_ 4), (3, pt b17 0), (4, vI (table_Table_Bytes (⟨c_60, c_59⟩ : table_Table))), (5, pt b0_ 0), (6, pt b0_ 0), (7, pt b0_ 0), (8, pt b0_ 2), (9, vI a0.c.Bytes), (10, vB (decide (a0.c.Bytes < (table_Table_Bytes (⟨c_60, c_59⟩ : table_Table)))))] rfl ?_
              refine stage rfl rfl rfl rfl [0, 1, 3, 7, 15, 0, 32, 96, 224, 480, 1023] [0, 1, 2, 3, 4, 5, 6, 7, 8, 9, 10] [] rfl rfl rfl (qc rfl rfl (s_u (o_mv rfl)) (qc rfl rfl (s_u (o_nc rfl)) (qc rfl rfl (s_u (o_fa fa57_1 rfl)) (qc rfl rfl (s_u (o_ld 3 sc51 rfl rfl rfl)) (qc rfl rfl (s_u (o_callqP ca47 rfl (table_Table_Bytes.ok b17 (⟨c_60, c_59⟩ : table_Table) g2 _ rfl) (fun _ h => st_pk 11 [1, 7, 0, 2, 3, 4, 5, 6, 8, 9, 10] (by decide) h) (fun _ h => st_pk 11 [2, 0, 3, 4, 5, 6, 7, 1, 8, 9, 10] (by decide) h))) (qc rfl rfl (s_u (o_mv rfl)) (qc rfl rfl (s_u (o_nc rfl)) (qc rfl rfl (s_u (o_fa fa57_0 rfl)) (qc rfl rfl (s_u (o_fa fa29_2 rfl)) (qc rfl rfl (s_u (o_ld 3 sc3 rfl rfl rfl)) (qc rfl rfl (s_u (o_bin rfl rfl (bI_gt (table_Table_Bytes (⟨c_60, c_59⟩ : table_Table)) a0.c.Bytes))) qn))))))))))) en ?_
              intro _
              refine ex_sub (E' := [(0, pt b0_ 0), (4, pt b8 0), (99, vB (decide (a0.c.Bytes < (table_Table_Bytes (⟨c_60, c_59⟩ : table_Table)))))]) ⟨rfl, rfl, rfl, trivial⟩ ?_
              refine x_seq ?_
              refine c_if (b := decide (a0.c.Bytes < (table_Table_Bytes (⟨c_60, c_59⟩ : table_Table)))) rfl (fun h71 => ?_) fun h71 => ?_
              · have hm72 := ift hm69 h71
                clear hm69
                refine c_skip ?_
                refine x_seq ?_
                refine c_blk ?_
                refine c_seq ?_
                refine c_reg ?_
                refine r_u (o_mv rfl) ?_
                refine r_u (o_nc rfl) ?_
                refine r_u (o_fa fa57_2 rfl) ?_
                refine r_u (o_ld 3 sc48 rfl rfl rfl) ?_
                obtain ⟨r73, hr73, hm81⟩ := bs hm72
                clear hm72
                refine rl_st (fun _ h => mv2 (mv10 (mv10 h))) ?_
                refine r_sw (s_w (o_call ca48 rfl (policy_Policy_Evict.ok b24 c_58 (⟨(pv63, g64), (pv66, g67)⟩ : policy_Policy.G) r73 hr73))) ?_
                rintro _ R _ _ ⟨⟨⟨pv76, g77⟩, ⟨pv79, g80⟩⟩, rfl, rfl, rfl⟩
                refine r_u (o_mv rfl) ?_
                refine r_u (o_ext rfl rfl) ?_
                refine r_u (o_ext rfl rfl) ?_
                refine r_u (o_as rfl) ?_
                refine r_u (o_as rfl) ?_
                refine r_nil ?_
                refine x_seq ?_
                refine c_seq ?_
                refine c_seq ?_
                refine c_reg ?_
                refine r_u (o_mv rfl) ?_
                refine r_u (o_not rfl) ?_
                refine r_nil ?_
                refine x_seq ?_
                refine c_if (b := !r73.2.1) rfl (fun h82 => ?_) fun h82 => ?_
                · have hm83 := ift hm81 h82
                  clear hm81
                  refine c_exit (x_exit (ks' := _) rfl ?_)
                  obtain rfl := Option.some.inj hm83
                  exact x_sub (K57 (⟨(pv76, g77), (pv79, g80)⟩ : policy_Policy.G)) ⟨rfl, rfl, trivial⟩ (fun _ h => st_pk 11 [0, 3, 4, 5, 6, 7, 8, 9, 10, 1, 2] (by decide) h)
                · have hm83 := iff_ hm81 h82
                  clear hm81
                  refine c_skip ?_
                  refine x_seq ?_
                  refine c_reg ?_
                  refine r_u (o_mv rfl) ?_
                  refine r_u (o_nc rfl) ?_
                  refine r_u (o_fa fa57_1 rfl) ?_
                  refine r_u (o_ld 5 sc51 rfl rfl rfl) ?_
                  refine r_u (o_mv rfl) ?_
                  obtain ⟨r84, hr84, hm85⟩ := ltx hm83
                  clear hm83
                  refine rl_st (fun _ h => mv4 (mv9 h)) ?_
                  refine r_c (s_w (o_call ca17 rfl (table_Table_Drop.ok b17 (⟨c_60, c_59⟩ : table_Table) g2 r73.1 r84 hr84))) ?_
                  refine r_nil ?_
                  refine x_blk ?_
                  exact x_lp (r73.2.2, r84.2.bytes, r84.2.m, (⟨(pv76, g77), (pv79, g80)⟩ : policy_Policy.G)) hm85 ⟨rfl, rfl, trivial⟩ (fun _ h => st_pk 11 [2, 0, 5, 6, 7, 8, 9, 1, 10, 3, 4] (by decide) h)
              · have hm72 := iff_ hm69 h71
                clear hm69
                refine c_exit (x_exit (ks' := _) rfl ?_)
                obtain rfl := Option.some.inj hm72
                exact x_sub (K57 (⟨(pv63, g64), (pv66, g67)⟩ : policy_Policy.G)) ⟨rfl, rfl, trivial⟩ (fun _ h => st_pk 11 [0, 1, 2, 3, 4, 5, 6, 7, 8, 9, 10] (by decide) h)
          · refine c_blk ?_
            refine cd_loop (M := fun k89 (s : Int × Int × (List (Str × api_Entry))) => store_Store_put_l1 r33 k89 s.1 s.2.1 s.2.2 = some p43) (Ef := fun (s : Int × Int × (List (Str × api_Entry))) => [(0, pt b0_ 0), (4, pt b8 0), (76, v34), (77, vI (r33.1.length : Int)), (78, vI s.1)]) (Lf := fun (s : Int × Int × (List (Str × api_Entry))) => Bk b24 72 [vI r33.2.kind, pv37, pv40] :: Bk b17 79 [g2.m, vI s.2.1] :: Bk b11 44 [vS a1.Key, vS a1.Value, vW (a0.version + 1), vW p12] :: Bk b0_ 57 [vI a0.c.Policy, vI a0.c.Entries, vI a0.c.Bytes, vW a0.c.Seed, pt b17 0, pt b24 0, g6, vW a0.seq, vW a0.now, vW (a0.version + 1), vI a0.tally.Asked, vI a0.tally.Hits] :: Bk b8 33 [vI 0, vS [], vW 0] :: Bk b7 31 (api_Op.c a1) :: OwS true 9 1 eS v34 r33.1 :: rO (arc_Arc.op g38) pv37 r33.2.a :: rO (tiny_Tiny.op g41) pv40 r33.2.t :: OwM vS api_Entry.v g2.m s.2.2 :: OwM vW store_last.v g6 a0.sessions :: F) (((r33.1.length : Int) - 0).toNat + 1) (0, r21.bytes, r21.m) hp44 ⟨rfl, rfl, rfl, rfl, rfl, trivial⟩ (fun _ h => st_pk 11 [1, 4, 6, 7, 8, 9, 0, 2, 3, 5, 10] (by decide) h) (fun _ h => by cases h) fun k89 s hM91 => ?_
            obtain ⟨s_86, c_87, c_88⟩ := s
            have hm90 : store_Store_put_l1 r33 (k89 + 1) s_86 c_87 c_88 = some p43 := hM91
            rw [store_Store_put_l1] at hm90
            refine c_seq ?_
            refine c_reg ?_
            refine r_u (o_bin rfl rfl (bI_lt s_86 (r33.1.length : Int))) ?_
            refine r_nil ?_
            refine x_seq ?_
            refine c_seq ?_
            refine c_if (b := decide (s_86 < (r33.1.length : Int))) rfl (fun h92 => ?_) fun h92 => ?_
            · have hm93 := ift hm90 h92
              clear hm90
              refine c_skip ?_
              refine x_seq ?_
              refine c_seq ?_
              refine c_blk ?_
              refine c_seq ?_
              refine c_reg ?_
              obtain ⟨x94, hx94, hm95⟩ := bs hm93
              clear hm93
              refine r_u (o_ixO 6 Try.underlying59 (fun _ => by kernel_rfl) rfl rfl rfl hx94) ?_
              refine r_u (o_ldO0 6 sc9 rfl rfl hx94 rfl rfl) ?_
              refine r_u (o_as rfl) ?_
              refine r_nil ?_
              refine x_seq ?_
              refine c_reg ?_
              refine r_u (o_mv rfl) ?_
              refine r_u (o_nc rfl) ?_
              refine r_u (o_fa fa57_1 rfl) ?_
              refine r_u (o_ld 3 sc51 rfl rfl rfl) ?_
              refine r_u (o_mv rfl) ?_
              obtain ⟨r96, hr96, hm97⟩ := ltx hm95
              clear hm95
              refine rl_st (fun _ h => mv2 (mv9 h)) ?_
              refine r_c (s_w (o_call ca17 rfl (table_Table_Drop.ok b17 (⟨c_88, c_87⟩ : table_Table) g2 x94 r96 hr96))) ?_
              refine r_nil ?_
              refine x_blk ?_
              refine x_seq ?_
              refine c_reg ?_
              refine r_u (o_bin rfl rfl (bI_add s_86 1)) ?_
              refine r_u (o_mv rfl) ?_
              refine r_nil ?_
              exact x_lp (i64 (s_86 + 1), r96.2.bytes, r96.2.m) hm97 ⟨rfl, rfl, rfl, rfl, rfl, trivial⟩ (fun _ h => st_pk 11 [2, 0, 3, 4, 5, 6, 7, 8, 9, 1, 10] (by decide) h)
            · have hm93 := iff_ hm90 h92
              clear hm90
              refine c_exit (x_exit (ks' := _) rfl ?_)
              obtain rfl := Option.some.inj hm93
              exact x_sub K46 ⟨rfl, rfl, trivial⟩ (fun _ h => st_pk 11 [0, 1, 2, 3, 4, 5, 6, 7, 8, 9, 10] (by decide) h)
    · refine c_if (b := (decide (0 < a1.TTL) && decide (a0.now < 18446744073709551615))) rfl (fun h98 => ?_) fun h98 => ?_
      · have hm99 := ift hp13 h98
        clear hp13
        refine c_any mixed (effs := [14]) (V := []) ?_
        refine stage_ext [(0, pt b0_ 0), (1, pt b0_ 0), (2, pt b0_ 8), (3, vW a0.now), (4, pt b7 3), (5, vW a1.TTL), (6, pt b0_ 0), (7, pt b0_ 0), (8, pt b0_ 8), (9, vW a0.now), (10, vW (18446744073709551615 - a0.now)), (11, vW (if (18446744073709551615 - a0.now) < a1.TTL then 18446744073709551615 - a0.now else a1.TTL)), (12, vW (a0.now + (if (18446744073709551615 - a0.now) < a1.TTL then 18446744073709551615 - a0.now else a1.TTL))), (13, pt b11 3)] rfl ?_
        refine stage rfl rfl rfl rfl [0, 1, 3, 7, 0, 16, 0, 64, 192, 448, 960, 2032, 4095, 8191, 16383] [0, 1, 2, 3, 4, 5, 6, 7, 8, 9, 10, 11, 12, 13] [14] rfl rfl rfl (qc rfl rfl (s_u (o_mv rfl)) (qc rfl rfl (s_u (o_nc rfl)) (qc rfl rfl (s_u (o_fa fa57_5 rfl)) (qc rfl rfl (s_u (o_ld 1 sc22 rfl rfl rfl)) (qc rfl rfl (s_u (o_fa fa31_3 rfl)) (qc rfl rfl (s_u (o_ld 3 sc22 rfl rfl rfl)) (qc rfl rfl (s_u (o_mv rfl)) (qc rfl rfl (s_u (o_nc rfl)) (qc rfl rfl (s_u (o_fa fa57_5 rfl)) (qc rfl rfl (s_u (o_ld 1 sc22 rfl rfl rfl)) (qc rfl rfl (s_u (o_bin rfl rfl (bW_sub 18446744073709551615 a0.now))) (qc rfl rfl (s_u (o_minW rfl rfl)) (qc rfl rfl (s_u (o_bin rfl rfl (bW_add a0.now (if (18446744073709551615 - a0.now) < a1.TTL then 18446744073709551615 - a0.now else a1.TTL)))) (qc rfl rfl (s_u (o_fa fa44_3 rfl)) qn)))))))))))))) ?_ (fun h => absurd h (by decide))
        refine ec (eo_u rfl (s_u (o_st sc22 rfl rfl rfl rfl rfl rfl)) (Le.refl _) ?_) en
        refine stage rfl rfl rfl rfl [0, 1, 3, 7, 0, 16, 0, 64, 192, 448, 960, 2032, 4095, 8191, 16383] [] [] rfl rfl rfl qn en ?_
        intro _
        refine ex_sub (E' := [(0, pt b0_ 0), (3, pt b7 0), (4, pt b8 0), (5, pt b11 0)]) ⟨rfl, rfl, rfl, rfl, trivial⟩ ?_
        obtain rfl := Option.some.inj hm99
        exact x_sub K15 ⟨rfl, rfl, rfl, rfl, trivial⟩ (fun _ h => st_pk 7 [0, 1, 2, 3, 4, 5, 6] (by decide) h)
      · have hm99 := iff_ hp13 h98
        clear hp13
        refine c_skip ?_
        obtain rfl := Option.some.inj hm99
        exact x_sub K15 ⟨rfl, rfl, rfl, rfl, trivial⟩ (fun _ h => st_pk 7 [0, 1, 2, 3, 4, 5, 6] (by decide) h)

def store_Store_do (a0 : store_Store) (a1 : api_Op) : Option (api_Reply × store_Store) :=
  om a0.t (none) fun x9 => lt (table_Table_Get x9 a1.Key) fun r14 => if (a1.Kind == 1) then if !r14.2 then om a0.p (none) fun x21 => (policy_Policy_Miss x21 a1.Key).bind fun r31 => some ((⟨2, [], 0⟩ : api_Reply), (⟨a0.c, a0.t, (some r31), a0.sessions, a0.seq, a0.now, a0.version, (⟨i64 (a0.tally.Asked + 1), a0.tally.Hits⟩ : api_Tally)⟩ : store_Store)) else om a0.p (none) fun x33 => (policy_Policy_Touch x33 a1.Key).bind fun r43 => some ((⟨0, r14.1.Value, r14.1.Version⟩ : api_Reply), (⟨a0.c, a0.t, (some r43.2), a0.sessions, a0.seq, a0.now, a0.version, (⟨i64 (a0.tally.Asked + 1), i64 (a0.tally.Hits + 1)⟩ : api_Tally)⟩ : store_Store)) else if (a1.Kind == 3) then if !r14.2 then some ((⟨2, [], 0⟩ : api_Reply), a0) else lt (table_Table_Drop x9 a1.Key) fun r56 => om a0.p (none) fun x58 => (policy_Policy_Remove x58 a1.Key).bind fun r68 => some ((⟨0, [], r14.1.Version⟩ : api_Reply), (⟨a0.c, (some r56.2), (some r68.2), a0.sessions, a0.seq, a0.now, a0.version, a0.tally⟩ : store_Store)) else if (a1.Kind == 4) then if !r14.2 then some ((⟨2, [], 0⟩ : api_Reply), a0) else if (r14.1.Version != a1.Version) then some ((⟨121, [], r14.1.Version⟩ : api_Reply), a0) else (store_Store_put (⟨a0.c, (some x9), a0.p, a0.sessions, a0.seq, a0.now, a0.version, a0.tally⟩ : store_Store) a1).bind fun r83 => some (r83.1, r83.2) else (store_Store_put (⟨a0.c, (some x9), a0.p, a0.sessions, a0.seq, a0.now, a0.version, a0.tally⟩ : store_Store) a1).bind fun r93 => some (r93.1, r93.2)
theorem store_Store_do.ok {G R F} (b0_ : Nat) (a0 : store_Store) (g0_ : store_Store.G) (a1 : api_Op) (r : api_Reply × store_Store) (hm : store_Store_do a0 a1 = some r) : CO Try.prog 19 [pt b0_ 0, .agg (api_Op.c a1).toArray] G R (Bk b0_ 57 [vI a0.c.Policy, vI a0.c.Entries, vI a0.c.Bytes, vW a0.c.Seed, g0_.t.1, g0_.p.1, g0_.sessions, vW a0.seq, vW a0.now, vW a0.version, vI a0.tally.Asked, vI a0.tally.Hits] :: rO (table_Table.op g0_.t.2) g0_.t.1 a0.t :: rO (policy_Policy.op g0_.p.2) g0_.p.1 a0.p :: OwM vW store_last.v g0_.sessions a0.sessions :: F)
    (Ret fun u R' L' => ∃ (q0 : store_Store.G), u = .agg (api_Reply.c r.1).toArray ∧ R' = R ∧ L' = Bk b0_ 57 [vI r.2.c.Policy, vI r.2.c.Entries, vI r.2.c.Bytes, vW r.2.c.Seed, q0.t.1, q0.p.1, q0.sessions, vW r.2.seq, vW r.2.now, vW r.2.version, vI r.2.tally.Asked, vI r.2.tally.Hits] :: rO (table_Table.op q0.t.2) q0.t.1 r.2.t :: rO (policy_Policy.op q0.p.2) q0.p.1 r.2.p :: OwM vW store_last.v q0.sessions r.2.sessions :: F) := by
  obtain ⟨⟨pv1, g2⟩, ⟨pv4, g5⟩, g6⟩ := g0_
  unfold store_Store_do at hm
  refine co_ofN (N := 99) Try.func19 rfl rfl ?_
  refine c_seq ?_
  refine c_reg ?_
  refine r_new (o_bx (api_Op.c a1) rfl rfl) fun b7 => ?_
  refine r_new (o_al ze33) fun b8 => ?_
  refine r_nil ?_
  refine x_seq ?_
  refine c_seq ?_
  refine cd_st (fun _ h => mv3 h) ?_
  refine cd_opt (fun ho11 => ?_) (fun x9 b10 ho11 => ?_)
  · rintro rfl
    have hm12 := om_n hm ho11
    clear hm
    cases hm12
  · rintro rfl
    have hm12 := om_s hm ho11
    clear hm
    refine cd_st (fun _ h => st_star_o h) ?_
    obtain ⟨r14, hr14, hm15⟩ := ltx hm12
    clear hm12
    refine c_any mixed (effs := [10, 11]) (V := []) ?_
    refine stage_ext [(0, pt b0_ 0), (1, pt b0_ 0), (2, pt b0_ 4), (3, pt b10 0), (4, pt b7 1), (5, vS a1.Key), (6, .tuple #[.agg (api_Entry.c r14.1).toArray, vB r14.2]), (7, .tuple #[.agg (api_Entry.c r14.1).toArray, vB r14.2]), (8, .agg (api_Entry.c r14.1).toArray), (9, vB r14.2)] rfl ?_
    refine stage rfl rfl rfl rfl [0, 1, 3, 7, 0, 16, 63, 127, 255, 255, 0, 1535, 4095] [0, 1, 2, 3, 4, 5, 6, 7, 8, 9] [10] rfl rfl rfl (qc rfl rfl (s_u (o_mv rfl)) (qc rfl rfl (s_u (o_nc rfl)) (qc rfl rfl (s_u (o_fa fa57_1 rfl)) (qc rfl rfl (s_u (o_ld 4 sc51 rfl rfl rfl)) (qc rfl rfl (s_u (o_fa fa31_1 rfl)) (qc rfl rfl (s_u (o_ld 3 sc9 rfl rfl rfl)) (qc rfl rfl (s_u (o_callqP ca21 rfl (table_Table_Get.ok b10 x9 g2 a1.Key r14 hr14) (fun _ h => st_pk 7 [0, 1, 2, 3, 4, 5, 6] (by decide) h) (fun _ h => st_pk 7 [0, 1, 2, 3, 4, 5, 6] (by decide) h))) (qc rfl rfl (s_u (o_mv rfl)) (qc rfl rfl (s_u (o_ext rfl rfl)) (qc rfl rfl (s_u (o_ext rfl rfl)) qn)))))))))) ?_ (fun h => absurd h (by decide))
    refine ec (eo_n rfl (s_w (o_al ze44)) fun b16 => ?_) en
    refine stage rfl rfl rfl rfl [0, 1, 3, 7, 0, 16, 63, 127, 255, 255, 0, 1535, 4095] [0, 1, 2, 3, 4, 5, 6, 7, 8, 9] [11] rfl rfl rfl (qc rfl rfl (s_u (o_mv rfl)) (qc rfl rfl (s_u (o_nc rfl)) (qc rfl rfl (s_u (o_fa fa57_1 rfl)) (qc rfl rfl (s_u (o_ld 5 sc51 rfl rfl rfl)) (qc rfl rfl (s_u (o_fa fa31_1 rfl)) (qc rfl rfl (s_u (o_ld 4 sc9 rfl rfl rfl)) (qc rfl rfl (s_u (o_callqP ca21 rfl (table_Table_Get.ok b10 x9 g2 a1.Key r14 hr14) (fun _ h => st_pk 8 [1, 2, 0, 3, 4, 5, 6, 7] (by decide) h) (fun _ h => st_pk 8 [2, 0, 1, 3, 4, 5, 6, 7] (by decide) h))) (qc rfl rfl (s_u (o_mv rfl)) (qc rfl rfl (s_u (o_ext rfl rfl)) (qc rfl rfl (s_u (o_ext rfl rfl)) qn)))))))))) ?_ (fun h => absurd h (by decide))
    refine ec (eo_u rfl (s_u (o_stn ag44 rfl rfl rfl rfl rfl rfl rfl)) (Le.refl _) ?_) en
    refine stage_ext [(12, vB r14.2)] rfl ?_
    refine stage rfl rfl rfl rfl [0, 1, 3, 7, 0, 16, 63, 127, 255, 255, 0, 1535, 4095] [9, 12] [] rfl rfl rfl (qc rfl rfl (s_u (o_ext rfl rfl)) (qc rfl rfl (s_u (o_as rfl)) qn)) en ?_
    intro _
    refine ex_sub (E' := [(0, pt b0_ 0), (3, pt b7 0), (4, pt b8 0), (5, pt b16 0), (6, vB r14.2)]) ⟨rfl, rfl, rfl, rfl, rfl, trivial⟩ ?_
    refine x_seq ?_
    refine c_seq ?_
    refine c_seq ?_
    refine c_reg ?_
    refine r_u (o_fa fa31_0 rfl) ?_
    refine r_u (o_ld 4 sc3 rfl rfl rfl) ?_
    refine r_nil ?_
    refine x_seq ?_
    refine c_blk ?_
    refine c_seq ?_
    refine c_reg ?_
    refine r_u (o_bin rfl rfl (bI_eq a1.Kind 1)) ?_
    refine r_u (o_as rfl) ?_
    refine r_nil ?_
    refine x_seq ?_
    refine c_if (b := (a1.Kind == 1)) rfl (fun h17 => ?_) fun h17 => ?_
    · have hm18 := ift hm15 h17
      clear hm15
      refine c_seq ?_
      refine c_reg ?_
      refine r_u (o_mv rfl) ?_
      refine r_u (o_nc rfl) ?_
      refine r_u (o_fa fa57_7 rfl) ?_
      refine r_u (o_fa fa55_0 rfl) ?_
      refine r_u (o_ld 5 sc2 rfl rfl rfl) ?_
      refine r_u (o_bin rfl rfl (bI_add a0.tally.Asked 1)) ?_
      refine r_u (o_nc rfl) ?_
      refine r_u (o_fa fa57_7 rfl) ?_
      refine r_u (o_fa fa55_0 rfl) ?_
      refine rl_st (fun _ h => mv5 h) ?_
      refine r_u0 (o_st sc2 rfl rfl rfl rfl rfl rfl) ?_
      refine r_nil ?_
      refine x_seq ?_
      refine c_seq ?_
      refine c_seq ?_
      refine c_reg ?_
      refine r_u (o_mv rfl) ?_
      refine r_u (o_not rfl) ?_
      refine r_nil ?_
      refine x_seq ?_
      refine c_if (b := !r14.2) rfl (fun h19 => ?_) fun h19 => ?_
      · have hm20 := ift hm18 h19
        clear hm18
        refine c_seq ?_
        refine cd_st (fun _ h => mv6 h) ?_
        refine cd_opt (fun ho23 => ?_) (fun x21 b22 ho23 => ?_)
        · rintro rfl
          have hm24 := om_n hm20 ho23
          clear hm20
          cases hm24
        · rintro rfl
          have hm24 := om_s hm20 ho23
          clear hm20
          obtain ⟨⟨pv26, g27⟩, ⟨pv29, g30⟩⟩ := g5
          refine cd_st (fun _ h => st_star_o h) ?_
          obtain ⟨r31, hr31, hm32⟩ := bs hm24
          clear hm24
          refine c_any mixed (effs := [6]) (V := []) ?_
          refine stage_ext [(0, pt b0_ 0), (1, pt b0_ 0), (2, pt b0_ 5), (3, pt b22 0), (4, pt b7 1), (5, vS a1.Key)] rfl ?_
          refine stage rfl rfl rfl rfl [0, 1, 3, 7, 0, 16, 63] [0, 1, 2, 3, 4, 5] [6] rfl rfl rfl (qc rfl rfl (s_u (o_mv rfl)) (qc rfl rfl (s_u (o_nc rfl)) (qc rfl rfl (s_u (o_fa fa57_2 rfl)) (qc rfl rfl (s_u (o_ld 3 sc48 rfl rfl rfl)) (qc rfl rfl (s_u (o_fa fa31_1 rfl)) (qc rfl rfl (s_u (o_ld 8 sc9 rfl rfl rfl)) qn)))))) ?_ (fun h => absurd h (by decide))
          refine ec (eo_c rfl (s_w (o_call ca30 rfl (policy_Policy_Miss.ok b22 x21 (⟨(pv26, g27), (pv29, g30)⟩ : policy_Policy.G) a1.Key r31 hr31))) ?_) en
          refine stage rfl rfl rfl rfl [0, 1, 3, 7, 0, 16, 63] [] [] rfl rfl rfl qn en ?_
          intro _
          refine ex_sub (E' := [(4, pt b8 0)]) ⟨rfl, trivial⟩ ?_
          refine x_seq ?_
          refine c_seq ?_
          refine c_reg ?_
          refine r_u (o_bld [vI 2, vS [], vW 0] rfl (fun _ => by kernel_rfl)) ?_
          refine rl_st (fun _ h => mv7 h) ?_
          refine r_u0 (o_stn ag33 rfl rfl rfl rfl rfl rfl rfl) ?_
          refine r_nil ?_
          refine x_seq ?_
          refine c_ret ?_
          refine ex_st (fun _ h => mv7 (mv7 h)) ?_
          refine ex_st (fun _ h => st_some (f := table_Table.op g2) (a := x9) (st_star_f (A := table_Table.fl b10 x9 g2) h)) ?_
          refine ex_st (fun _ h => mv4 (mv4 (mv4 h))) ?_
          refine ex_st (fun _ h => st_some (f := policy_Policy.op (⟨(pv26, g27), (pv29, g30)⟩ : policy_Policy.G)) (a := r31) (st_star_f (A := policy_Policy.fl b22 r31 (⟨(pv26, g27), (pv29, g30)⟩ : policy_Policy.G)) h)) ?_
          refine ex_st (fun _ h => mv1 h) ?_
          refine ex_st (fun _ h => st_back ho11 h) ?_
          obtain rfl := Option.some.inj hm32
          exact x_d1 rfl (rv_n 2 [vI 2, vS [], vW 0] ag33 rfl rfl rfl rfl) (fun _ h => st_pk 7 [3, 0, 1, 6] (by decide) h) (Le.refl _) ⟨_, rfl, (⟨(pt b10 0, g2), (pt b22 0, (⟨(pv26, g27), (pv29, g30)⟩ : policy_Policy.G)), g6⟩ : store_Store.G), rfl, rfl, rfl⟩
      · have hm20 := iff_ hm18 h19
        clear hm18
        refine c_skip ?_
        refine x_seq ?_
        refine c_seq ?_
        refine c_reg ?_
        refine r_u (o_mv rfl) ?_
        refine r_u (o_nc rfl) ?_
        refine r_u (o_fa fa57_7 rfl) ?_
        refine r_u (o_fa fa55_1 rfl) ?_
        refine r_u (o_ld 0 sc2 rfl rfl rfl) ?_
        refine r_u (o_bin rfl rfl (bI_add a0.tally.Hits 1)) ?_
        refine r_u (o_nc rfl) ?_
        refine r_u (o_fa fa57_7 rfl) ?_
        refine r_u (o_fa fa55_1 rfl) ?_
        refine r_u0 (o_st sc2 rfl rfl rfl rfl rfl rfl) ?_
        refine r_nil ?_
        refine x_seq ?_
        refine c_seq ?_
        refine cd_st (fun _ h => mv6 h) ?_
        refine cd_opt (fun ho35 => ?_) (fun x33 b34 ho35 => ?_)
        · rintro rfl
          have hm36 := om_n hm20 ho35
          clear hm20
          cases hm36
        · rintro rfl
          have hm36 := om_s hm20 ho35
          clear hm20
          obtain ⟨⟨pv38, g39⟩, ⟨pv41, g42⟩⟩ := g5
          refine cd_st (fun _ h => st_star_o h) ?_
          obtain ⟨r43, hr43, hm51⟩ := bs hm36
          clear hm36
          refine c_any mixed (effs := [6]) (V := []) ?_
          refine stage_ext [(0, pt b0_ 0), (1, pt b0_ 0), (2, pt b0_ 5), (3, pt b34 0), (4, pt b7 1), (5, vS a1.Key)] rfl ?_
          refine stage rfl rfl rfl rfl [0, 1, 3, 7, 0, 16, 63] [0, 1, 2, 3, 4, 5] [6] rfl rfl rfl (qc rfl rfl (s_u (o_mv rfl)) (qc rfl rfl (s_u (o_nc rfl)) (qc rfl rfl (s_u (o_fa fa57_2 rfl)) (qc rfl rfl (s_u (o_ld 3 sc48 rfl rfl rfl)) (qc rfl rfl (s_u (o_fa fa31_1 rfl)) (qc rfl rfl (s_u (o_ld 8 sc9 rfl rfl rfl)) qn)))))) ?_ (fun h => absurd h (by decide))
          refine ec (eo_w rfl (s_w (o_call ca31 rfl (policy_Policy_Touch.ok b34 x33 (⟨(pv38, g39), (pv41, g42)⟩ : policy_Policy.G) a1.Key r43 hr43))) ?_) en
          rintro _ R _ _ ⟨⟨⟨pv46, g47⟩, ⟨pv49, g50⟩⟩, rfl, rfl, rfl⟩
          refine stage rfl rfl rfl rfl [0, 1, 3, 7, 0, 16, 63] [] [] rfl rfl rfl qn en ?_
          intro _
          refine ex_sub (E' := [(4, pt b8 0), (5, pt b16 0)]) ⟨rfl, rfl, trivial⟩ ?_
          refine x_seq ?_
          refine c_seq ?_
          refine c_reg ?_
          refine r_u (o_fa fa44_1 rfl) ?_
          refine r_u (o_ld 4 sc9 rfl rfl rfl) ?_
          refine r_u (o_fa fa44_2 rfl) ?_
          refine r_u (o_ld 4 sc22 rfl rfl rfl) ?_
          refine r_u (o_bld [vI 0, vS r14.1.Value, vW r14.1.Version] rfl (fun _ => by kernel_rfl)) ?_
          refine rl_st (fun _ h => mv7 h) ?_
          refine r_u0 (o_stn ag33 rfl rfl rfl rfl rfl rfl rfl) ?_
          refine r_nil ?_
          refine x_seq ?_
          refine c_ret ?_
          refine ex_st (fun _ h => mv7 (mv7 h)) ?_
          refine ex_st (fun _ h => st_some (f := table_Table.op g2) (a := x9) (st_star_f (A := table_Table.fl b10 x9 g2) h)) ?_
          refine ex_st (fun _ h => mv4 (mv4 (mv4 h))) ?_
          refine ex_st (fun _ h => st_some (f := policy_Policy.op (⟨(pv46, g47), (pv49, g50)⟩ : policy_Policy.G)) (a := r43.2) (st_star_f (A := policy_Policy.fl b34 r43.2 (⟨(pv46, g47), (pv49, g50)⟩ : policy_Policy.G)) h)) ?_
          refine ex_st (fun _ h => mv1 h) ?_
          refine ex_st (fun _ h => st_back ho11 h) ?_
          obtain rfl := Option.some.inj hm51
          exact x_d1 rfl (rv_n 2 [vI 0, vS r14.1.Value, vW r14.1.Version] ag33 rfl rfl rfl rfl) (fun _ h => st_pk 7 [3, 0, 1, 6] (by decide) h) (Le.refl _) ⟨_, rfl, (⟨(pt b10 0, g2), (pt b34 0, (⟨(pv46, g47), (pv49, g50)⟩ : policy_Policy.G)), g6⟩ : store_Store.G), rfl, rfl, rfl⟩
    · have hm18 := iff_ hm15 h17
      clear hm15
      refine c_seq ?_
      refine c_reg ?_
      refine r_u (o_bin rfl rfl (bI_eq a1.Kind 3)) ?_
      refine r_u (o_as rfl) ?_
      refine r_nil ?_
      refine x_seq ?_
      refine c_if (b := (a1.Kind == 3)) rfl (fun h52 => ?_) fun h52 => ?_
      · have hm53 := ift hm18 h52
        clear hm18
        refine c_seq ?_
        refine c_seq ?_
        refine c_reg ?_
        refine r_u (o_mv rfl) ?_
        refine r_u (o_not rfl) ?_
        refine r_nil ?_
        refine x_seq ?_
        refine c_if (b := !r14.2) rfl (fun h54 => ?_) fun h54 => ?_
        · have hm55 := ift hm53 h54
          clear hm53
          refine c_seq ?_
          refine c_reg ?_
          refine r_u (o_bld [vI 2, vS [], vW 0] rfl (fun _ => by kernel_rfl)) ?_
          refine rl_st (fun _ h => mv3 h) ?_
          refine r_u0 (o_stn ag33 rfl rfl rfl rfl rfl rfl rfl) ?_
          refine r_nil ?_
          refine x_seq ?_
          refine c_ret ?_
          refine ex_st (fun _ h => mv3 (mv3 h)) ?_
          refine ex_st (fun _ h => st_some (f := table_Table.op g2) (a := x9) (st_star_f (A := table_Table.fl b10 x9 g2) h)) ?_
          refine ex_st (fun _ h => st_back ho11 h) ?_
          obtain rfl := Option.some.inj hm55
          exact x_d1 rfl (rv_n 1 [vI 2, vS [], vW 0] ag33 rfl rfl rfl rfl) (fun _ h => st_pk 7 [4, 0, 5, 6] (by decide) h) (Le.refl _) ⟨_, rfl, (⟨(pt b10 0, g2), (pv4, g5), g6⟩ : store_Store.G), rfl, rfl, rfl⟩
        · have hm55 := iff_ hm53 h54
          clear hm53
          refine c_skip ?_
          refine x_seq ?_
          refine c_seq ?_
          obtain ⟨r56, hr56, hm57⟩ := ltx hm55
          clear hm55
          refine c_any mixed (effs := [6]) (V := []) ?_
          refine stage_st (fun _ h => mv2 (mv2 h)) ?_
          refine stage_ext [(0, pt b0_ 0), (1, pt b0_ 0), (2, pt b0_ 4), (3, pt b10 0), (4, pt b7 1), (5, vS a1.Key)] rfl ?_
          refine stage rfl rfl rfl rfl [0, 1, 3, 7, 0, 16, 63] [0, 1, 2, 3, 4, 5] [6] rfl rfl rfl (qc rfl rfl (s_u (o_mv rfl)) (qc rfl rfl (s_u (o_nc rfl)) (qc rfl rfl (s_u (o_fa fa57_1 rfl)) (qc rfl rfl (s_u (o_ld 5 sc51 rfl rfl rfl)) (qc rfl rfl (s_u (o_fa fa31_1 rfl)) (qc rfl rfl (s_u (o_ld 4 sc9 rfl rfl rfl)) qn)))))) ?_ (fun h => absurd h (by decide))
          refine ec (eo_c rfl (s_w (o_call ca17 rfl (table_Table_Drop.ok b10 x9 g2 a1.Key r56 hr56))) ?_) en
          refine stage rfl rfl rfl rfl [0, 1, 3, 7, 0, 16, 63] [] [] rfl rfl rfl qn en ?_
          intro _
          refine ex_sub (E' := [(0, pt b0_ 0), (3, pt b7 0), (4, pt b8 0), (5, pt b16 0)]) ⟨rfl, rfl, rfl, rfl, trivial⟩ ?_
          refine x_seq ?_
          refine c_seq ?_
          refine cd_st (fun _ h => mv6 h) ?_
          refine cd_opt (fun ho60 => ?_) (fun x58 b59 ho60 => ?_)
          · rintro rfl
            have hm61 := om_n hm57 ho60
            clear hm57
            cases hm61
          · rintro rfl
            have hm61 := om_s hm57 ho60
            clear hm57
            obtain ⟨⟨pv63, g64⟩, ⟨pv66, g67⟩⟩ := g5
            refine cd_st (fun _ h => st_star_o h) ?_
            obtain ⟨r68, hr68, hm76⟩ := bs hm61
            clear hm61
            refine c_any mixed (effs := [6]) (V := []) ?_
            refine stage_ext [(0, pt b0_ 0), (1, pt b0_ 0), (2, pt b0_ 5), (3, pt b59 0), (4, pt b7 1), (5, vS a1.Key)] rfl ?_
            refine stage rfl rfl rfl rfl [0, 1, 3, 7, 0, 16, 63] [0, 1, 2, 3, 4, 5] [6] rfl rfl rfl (qc rfl rfl (s_u (o_mv rfl)) (qc rfl rfl (s_u (o_nc rfl)) (qc rfl rfl (s_u (o_fa fa57_2 rfl)) (qc rfl rfl (s_u (o_ld 8 sc48 rfl rfl rfl)) (qc rfl rfl (s_u (o_fa fa31_1 rfl)) (qc rfl rfl (s_u (o_ld 7 sc9 rfl rfl rfl)) qn)))))) ?_ (fun h => absurd h (by decide))
            refine ec (eo_w rfl (s_w (o_call ca18 rfl (policy_Policy_Remove.ok b59 x58 (⟨(pv63, g64), (pv66, g67)⟩ : policy_Policy.G) a1.Key r68 hr68))) ?_) en
            rintro _ R _ _ ⟨⟨⟨pv71, g72⟩, ⟨pv74, g75⟩⟩, rfl, rfl, rfl⟩
            refine stage rfl rfl rfl rfl [0, 1, 3, 7, 0, 16, 63] [] [] rfl rfl rfl qn en ?_
            intro _
            refine ex_sub (E' := [(4, pt b8 0), (5, pt b16 0)]) ⟨rfl, rfl, trivial⟩ ?_
            refine x_seq ?_
            refine c_seq ?_
            refine c_reg ?_
            refine r_u (o_fa fa44_2 rfl) ?_
            refine r_u (o_ld 5 sc22 rfl rfl rfl) ?_
            refine r_u (o_bld [vI 0, vS [], vW r14.1.Version] rfl (fun _ => by kernel_rfl)) ?_
            refine rl_st (fun _ h => mv6 h) ?_
            refine r_u0 (o_stn ag33 rfl rfl rfl rfl rfl rfl rfl) ?_
            refine r_nil ?_
            refine x_seq ?_
            refine c_ret ?_
            refine ex_st (fun _ h => mv5 (mv5 h)) ?_
            refine ex_st (fun _ h => st_some (f := table_Table.op g2) (a := r56.2) (st_star_f (A := table_Table.fl b10 r56.2 g2) h)) ?_
            refine ex_st (fun _ h => mv4 (mv4 (mv4 h))) ?_
            refine ex_st (fun _ h => st_some (f := policy_Policy.op (⟨(pv71, g72), (pv74, g75)⟩ : policy_Policy.G)) (a := r68.2) (st_star_f (A := policy_Policy.fl b59 r68.2 (⟨(pv71, g72), (pv74, g75)⟩ : policy_Policy.G)) h)) ?_
            obtain rfl := Option.some.inj hm76
            exact x_d1 rfl (rv_n 2 [vI 0, vS [], vW r14.1.Version] ag33 rfl rfl rfl rfl) (fun _ h => st_pk 7 [5, 1, 0, 6] (by decide) h) (Le.refl _) ⟨_, rfl, (⟨(pt b10 0, g2), (pt b59 0, (⟨(pv71, g72), (pv74, g75)⟩ : policy_Policy.G)), g6⟩ : store_Store.G), rfl, rfl, rfl⟩
      · have hm53 := iff_ hm18 h52
        clear hm18
        refine c_seq ?_
        refine c_reg ?_
        refine r_u (o_bin rfl rfl (bI_eq a1.Kind 4)) ?_
        refine r_u (o_as rfl) ?_
        refine r_nil ?_
        refine x_seq ?_
        refine c_if (b := (a1.Kind == 4)) rfl (fun h77 => ?_) fun h77 => ?_
        · have hm78 := ift hm53 h77
          clear hm53
          refine c_seq ?_
          refine c_seq ?_
          refine c_reg ?_
          refine r_u (o_mv rfl) ?_
          refine r_u (o_not rfl) ?_
          refine r_nil ?_
          refine x_seq ?_
          refine c_if (b := !r14.2) rfl (fun h79 => ?_) fun h79 => ?_
          · have hm80 := ift hm78 h79
            clear hm78
            refine c_seq ?_
            refine c_reg ?_
            refine r_u (o_bld [vI 2, vS [], vW 0] rfl (fun _ => by kernel_rfl)) ?_
            refine rl_st (fun _ h => mv3 h) ?_
            refine r_u0 (o_stn ag33 rfl rfl rfl rfl rfl rfl rfl) ?_
            refine r_nil ?_
            refine x_seq ?_
            refine c_ret ?_
            refine ex_st (fun _ h => mv3 (mv3 h)) ?_
            refine ex_st (fun _ h => st_some (f := table_Table.op g2) (a := x9) (st_star_f (A := table_Table.fl b10 x9 g2) h)) ?_
            refine ex_st (fun _ h => st_back ho11 h) ?_
            obtain rfl := Option.some.inj hm80
            exact x_d1 rfl (rv_n 1 [vI 2, vS [], vW 0] ag33 rfl rfl rfl rfl) (fun _ h => st_pk 7 [4, 0, 5, 6] (by decide) h) (Le.refl _) ⟨_, rfl, (⟨(pt b10 0, g2), (pv4, g5), g6⟩ : store_Store.G), rfl, rfl, rfl⟩
          · have hm80 := iff_ hm78 h79
            clear hm78
            refine c_skip ?_
            refine x_seq ?_
            refine c_seq ?_
            refine c_reg ?_
            refine r_u (o_fa fa44_2 rfl) ?_
            refine r_u (o_ld 0 sc22 rfl rfl rfl) ?_
            refine r_u (o_fa fa31_4 rfl) ?_
            refine r_u (o_ld 4 sc22 rfl rfl rfl) ?_
            refine r_u (o_bin rfl rfl (bW_ne r14.1.Version a1.Version)) ?_
            refine r_nil ?_
            refine x_seq ?_
            refine c_if (b := (r14.1.Version != a1.Version)) rfl (fun h81 => ?_) fun h81 => ?_
            · have hm82 := ift hm80 h81
              clear hm80
              refine c_seq ?_
              refine c_reg ?_
              refine r_u (o_fa fa44_2 rfl) ?_
              refine r_u (o_ld 0 sc22 rfl rfl rfl) ?_
              refine r_u (o_bld [vI 121, vS [], vW r14.1.Version] rfl (fun _ => by kernel_rfl)) ?_
              refine rl_st (fun _ h => mv3 h) ?_
              refine r_u0 (o_stn ag33 rfl rfl rfl rfl rfl rfl rfl) ?_
              refine r_nil ?_
              refine x_seq ?_
              refine c_ret ?_
              refine ex_st (fun _ h => mv3 (mv3 h)) ?_
              refine ex_st (fun _ h => st_some (f := table_Table.op g2) (a := x9) (st_star_f (A := table_Table.fl b10 x9 g2) h)) ?_
              refine ex_st (fun _ h => st_back ho11 h) ?_
              obtain rfl := Option.some.inj hm82
              exact x_d1 rfl (rv_n 1 [vI 121, vS [], vW r14.1.Version] ag33 rfl rfl rfl rfl) (fun _ h => st_pk 7 [4, 0, 5, 6] (by decide) h) (Le.refl _) ⟨_, rfl, (⟨(pt b10 0, g2), (pv4, g5), g6⟩ : store_Store.G), rfl, rfl, rfl⟩
            · have hm82 := iff_ hm80 h81
              clear hm80
              refine c_skip ?_
              refine x_blk ?_
              refine x_seq ?_
              refine c_seq ?_
              refine c_reg ?_
              refine r_u (o_mv rfl) ?_
              refine r_u (o_ldn 4 (api_Op.c a1) ag31 rfl rfl rfl rfl) ?_
              refine rl_st (fun _ h => mv2 (mv2 h)) ?_
              refine rl_st (fun _ h => st_some (f := table_Table.op g2) (a := x9) (st_star_f (A := table_Table.fl b10 x9 g2) h)) ?_
              obtain ⟨r83, hr83, hm92⟩ := bs hm82
              clear hm82
              refine rl_st (fun _ h => mv6 (mv2 (mv6 (mv6 h)))) ?_
              refine r_sw (s_w (o_call ca32 rfl (store_Store_put.ok b0_ (⟨a0.c, (some x9), a0.p, a0.sessions, a0.seq, a0.now, a0.version, a0.tally⟩ : store_Store) (⟨(pt b10 0, g2), (pv4, g5), g6⟩ : store_Store.G) a1 r83 hr83))) ?_
              rintro _ R _ _ ⟨⟨⟨pv86, g87⟩, ⟨pv89, g90⟩, g91⟩, rfl, rfl, rfl⟩
              refine rl_st (fun _ h => mv5 h) ?_
              refine r_u0 (o_stn ag33 rfl rfl rfl rfl rfl rfl rfl) ?_
              refine r_nil ?_
              refine x_seq ?_
              refine c_ret ?_
              obtain rfl := Option.some.inj hm92
              exact x_d1 rfl (rv_n 0 (api_Reply.c r83.1) ag33 rfl rfl rfl rfl) (fun _ h => st_pk 7 [1, 2, 3, 4] (by decide) h) (Le.refl _) ⟨_, rfl, (⟨(pv86, g87), (pv89, g90), g91⟩ : store_Store.G), rfl, rfl, rfl⟩
        · have hm78 := iff_ hm53 h77
          clear hm53
          refine c_skip ?_
          refine x_blk ?_
          refine x_seq ?_
          refine c_seq ?_
          refine c_reg ?_
          refine r_u (o_mv rfl) ?_
          refine r_u (o_ldn 4 (api_Op.c a1) ag31 rfl rfl rfl rfl) ?_
          refine rl_st (fun _ h => mv2 (mv2 h)) ?_
          refine rl_st (fun _ h => st_some (f := table_Table.op g2) (a := x9) (st_star_f (A := table_Table.fl b10 x9 g2) h)) ?_
          obtain ⟨r93, hr93, hm102⟩ := bs hm78
          clear hm78
          refine rl_st (fun _ h => mv6 (mv2 (mv6 (mv6 h)))) ?_
          refine r_sw (s_w (o_call ca32 rfl (store_Store_put.ok b0_ (⟨a0.c, (some x9), a0.p, a0.sessions, a0.seq, a0.now, a0.version, a0.tally⟩ : store_Store) (⟨(pt b10 0, g2), (pv4, g5), g6⟩ : store_Store.G) a1 r93 hr93))) ?_
          rintro _ R _ _ ⟨⟨⟨pv96, g97⟩, ⟨pv99, g100⟩, g101⟩, rfl, rfl, rfl⟩
          refine rl_st (fun _ h => mv5 h) ?_
          refine r_u0 (o_stn ag33 rfl rfl rfl rfl rfl rfl rfl) ?_
          refine r_nil ?_
          refine x_seq ?_
          refine c_ret ?_
          obtain rfl := Option.some.inj hm102
          exact x_d1 rfl (rv_n 0 (api_Reply.c r93.1) ag33 rfl rfl rfl rfl) (fun _ h => st_pk 7 [1, 2, 3, 4] (by decide) h) (Le.refl _) ⟨_, rfl, (⟨(pv96, g97), (pv99, g100), g101⟩ : store_Store.G), rfl, rfl, rfl⟩

end Go.Proofs.Ytpanhdnglicknaa
