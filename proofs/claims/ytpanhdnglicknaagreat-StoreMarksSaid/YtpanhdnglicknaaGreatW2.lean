import Derived.Test.YtpanhdnglicknaaGreatW1
import Derived.Test.YtpanhdnglicknaaGreatFacts
import Derived.Test.YtpanhdnglicknaaGreatHwZ
set_option linter.unusedVariables false
set_option linter.unusedSectionVars false
set_option linter.unusedSimpArgs false
set_option maxRecDepth 100000
set_option maxHeartbeats 8000000
namespace Go.Proofs.YtpanhdnglicknaaGreat
open Go Go.Proofs.YtpanhdnglicknaaGreat.Hw
def store_Store_put_l0 (a0 : store_Store) : Nat → policy_Policy → Int → (List (Str × api_Entry)) → Option (policy_Policy × Int × (List (Str × api_Entry)))
  | 0, _, _, _ => none
  | k68 + 1, c_58, c_59, c_60 => if decide (a0.c.Bytes < (table_Table_Bytes (⟨c_60, c_59⟩ : table_Table))) then (policy_Policy_Evict c_58).bind fun r73 => if !r73.2.1 then some (r73.2.2, c_59, c_60) else lt (table_Table_Drop (⟨c_60, c_59⟩ : table_Table) r73.1) fun r84 => store_Store_put_l0 a0 k68 r73.2.2 r84.2.bytes r84.2.m else some (c_58, c_59, c_60)
def store_Store_put_l1 (r33 : List Str × policy_Policy) : Nat → Int → Int → (List (Str × api_Entry)) → Option (Int × (List (Str × api_Entry)))
  | 0, _, _, _ => none
  | k89 + 1, s_86, c_87, c_88 => if decide (s_86 < (r33.1.length : Int)) then (gi r33.1 s_86).bind fun x94 => lt (table_Table_Drop (⟨c_88, c_87⟩ : table_Table) x94) fun r96 => store_Store_put_l1 r33 k89 (i64 (s_86 + 1)) r96.2.bytes r96.2.m else some (c_87, c_88)
def store_Store_put (a0 : store_Store) (a1 : api_Op) : Option (api_Reply × store_Store) :=
  if decide (a0.c.Bytes < (i64 ((a1.Key.length : Int) + (a1.Value.length : Int)))) then some ((⟨120, [], 0⟩ : api_Reply), a0) else Option.bind (if (decide (0 < a1.TTL) && decide (a0.now < 18446744073709551615)) then some (a0.now + (if (18446744073709551615 - a0.now) < a1.TTL then 18446744073709551615 - a0.now else a1.TTL)) else some 0) fun p12 => om a0.t (none) fun x16 => lt (table_Table_Put x16 (⟨a1.Key, a1.Value, a0.version + 1, p12⟩ : api_Entry)) fun r21 => om a0.p (none) fun x23 => (policy_Policy_Insert x23 a1.Key).bind fun r33 => Option.bind (store_Store_put_l1 r33 (((r33.1.length : Int) - 0).toNat + 1) 0 r21.bytes r21.m) fun p43 => Option.bind (store_Store_put_l0 a0 1100 r33.2 p43.1 p43.2) fun p47 => some ((⟨0, [], a0.version + 1⟩ : api_Reply), (⟨a0.c, (some (⟨p47.2.2, p47.2.1⟩ : table_Table)), (some p47.1), a0.sessions, a0.seq, a0.now, a0.version + 1, a0.tally⟩ : store_Store))
theorem store_Store_put.ok {G R F} (b0_ : Nat) (a0 : store_Store) (g0_ : store_Store.G) (a1 : api_Op) (r : api_Reply × store_Store) (hm : store_Store_put a0 a1 = some r) : CO Tryz.prog 72 [pt b0_ 0, .agg (api_Op.c a1).toArray] G R (Bk b0_ 96 [vI a0.c.Policy, vI a0.c.Entries, vI a0.c.Bytes, vW a0.c.Seed, g0_.t.1, g0_.p.1, g0_.sessions, vW a0.seq, vW a0.now, vW a0.version, vI a0.tally.Asked, vI a0.tally.Hits] :: rO (table_Table.op g0_.t.2) g0_.t.1 a0.t :: rO (policy_Policy.op g0_.p.2) g0_.p.1 a0.p :: OwM vW store_last.v g0_.sessions a0.sessions :: F)
    (Ret fun u R' L' => ∃ (q0 : store_Store.G), u = .agg (api_Reply.c r.1).toArray ∧ R' = R ∧ L' = Bk b0_ 96 [vI r.2.c.Policy, vI r.2.c.Entries, vI r.2.c.Bytes, vW r.2.c.Seed, q0.t.1, q0.p.1, q0.sessions, vW r.2.seq, vW r.2.now, vW r.2.version, vI r.2.tally.Asked, vI r.2.tally.Hits] :: rO (table_Table.op q0.t.2) q0.t.1 r.2.t :: rO (policy_Policy.op q0.p.2) q0.p.1 r.2.p :: OwM vW store_last.v q0.sessions r.2.sessions :: F) := by
  obtain ⟨⟨pv1, g2⟩, ⟨pv4, g5⟩, g6⟩ := g0_
  unfold store_Store_put at hm
  refine co_ofN (N := 121) Tryz.func72 rfl rfl ?_
  refine c_seq ?_
  refine c_reg ?_
  refine r_new (o_bx (api_Op.c a1) rfl rfl) fun b7 => ?_
  refine r_new (o_al ze41) fun b8 => ?_
  refine r_nil ?_
  refine x_seq ?_
  refine c_seq ?_
  refine c_seq ?_
  refine c_any mixed (effs := []) (V := []) ?_
  refine stage_ext [(0, pt b7 1), (1, vS a1.Key), (2, vI (a1.Key.length : Int)), (3, pt b7 2), (4, vS a1.Value), (5, vI (a1.Value.length : Int)), (6, vI (i64 ((a1.Key.length : Int) + (a1.Value.length : Int)))), (7, pt b0_ 0), (8, pt b0_ 0), (9, pt b0_ 0), (10, pt b0_ 2), (11, vI a0.c.Bytes), (12, vB (decide (a0.c.Bytes < (i64 ((a1.Key.length : Int) + (a1.Value.length : Int))))))] rfl ?_
  refine stage rfl rfl rfl rfl [0, 1, 3, 0, 8, 24, 63, 0, 128, 384, 896, 1920, 4095] [0, 1, 2, 3, 4, 5, 6, 7, 8, 9, 10, 11, 12] [] rfl rfl rfl (qc rfl rfl (s_u (o_fa fa27_1 rfl)) (qc rfl rfl (s_u (o_ld 1 sc9 rfl rfl rfl)) (qc rfl rfl (s_u (o_lenS Tryz.underlying9 rfl)) (qc rfl rfl (s_u (o_fa fa27_2 rfl)) (qc rfl rfl (s_u (o_ld 1 sc9 rfl rfl rfl)) (qc rfl rfl (s_u (o_lenS Tryz.underlying9 rfl)) (qc rfl rfl (s_u (o_bin rfl rfl (bI_add (a1.Key.length : Int) (a1.Value.length : Int)))) (qc rfl rfl (s_u (o_mv rfl)) (qc rfl rfl (s_u (o_nc rfl)) (qc rfl rfl (s_u (o_fa fa96_0 rfl)) (qc rfl rfl (s_u (o_fa fa24_2 rfl)) (qc rfl rfl (s_u (o_ld 2 sc3 rfl rfl rfl)) (qc rfl rfl (s_u (o_bin rfl rfl (bI_gt (i64 ((a1.Key.length : Int) + (a1.Value.length : Int))) a0.c.Bytes))) qn))))))))))))) en ?_
  intro _
  refine ex_sub (E' := [(0, pt b0_ 0), (3, pt b7 0), (4, pt b8 0), (22, vB (decide (a0.c.Bytes < (i64 ((a1.Key.length : Int) + (a1.Value.length : Int))))))]) ⟨rfl, rfl, rfl, rfl, trivial⟩ ?_
  refine x_seq ?_
  refine c_if (b := decide (a0.c.Bytes < (i64 ((a1.Key.length : Int) + (a1.Value.length : Int))))) rfl (fun h9 => ?_) fun h9 => ?_
  · have hm10 := ift hm h9
    clear hm
    refine c_seq ?_
    refine c_reg ?_
    refine r_u (o_bld [vI 120, vS [], vW 0] rfl (fun _ => by kernel_rfl)) ?_
    refine r_u0 (o_stn ag41 rfl rfl rfl rfl rfl rfl rfl) ?_
    refine r_nil ?_
    refine x_seq ?_
    refine c_ret ?_
    obtain rfl := Option.some.inj hm10
    exact x_d1 rfl (rv_n 0 [vI 120, vS [], vW 0] ag41 rfl rfl rfl rfl) (fun _ h => st_pk 6 [2, 3, 4, 5] (by decide) h) (Le.refl _) ⟨_, rfl, (⟨(pv1, g2), (pv4, g5), g6⟩ : store_Store.G), rfl, rfl, rfl⟩
  · have hm10 := iff_ hm h9
    clear hm
    refine c_skip ?_
    refine x_seq ?_
    refine c_seq ?_
    refine c_reg ?_
    refine r_u (o_mv rfl) ?_
    refine r_u (o_nc rfl) ?_
    refine r_u (o_fa fa96_6 rfl) ?_
    refine r_u (o_ld 2 sc22 rfl rfl rfl) ?_
    refine r_u (o_bin rfl rfl (bW_add a0.version 1)) ?_
    refine r_u (o_nc rfl) ?_
    refine r_u (o_fa fa96_6 rfl) ?_
    refine rl_st (fun _ h => mv2 h) ?_
    refine r_u0 (o_st sc22 rfl rfl rfl rfl rfl rfl) ?_
    refine r_nil ?_
    refine x_seq ?_
    refine c_seq ?_
    refine c_any mixed (effs := [9, 10]) (V := []) ?_
    refine stage_ext [(0, pt b7 1), (1, vS a1.Key), (2, pt b7 2), (3, vS a1.Value), (4, pt b0_ 0), (5, pt b0_ 0), (6, pt b0_ 9), (7, vW (a0.version + 1)), (8, .agg [vS a1.Key, vS a1.Value, vW (a0.version + 1), vW 0].toArray)] rfl ?_
    refine stage rfl rfl rfl rfl [0, 1, 0, 4, 0, 16, 48, 112, 255, 0, 1023] [0, 1, 2, 3, 4, 5, 6, 7, 8] [9] rfl rfl rfl (qc rfl rfl (s_u (o_fa fa27_1 rfl)) (qc rfl rfl (s_u (o_ld 2 sc9 rfl rfl rfl)) (qc rfl rfl (s_u (o_fa fa27_2 rfl)) (qc rfl rfl (s_u (o_ld 2 sc9 rfl rfl rfl)) (qc rfl rfl (s_u (o_mv rfl)) (qc rfl rfl (s_u (o_nc rfl)) (qc rfl rfl (s_u (o_fa fa96_6 rfl)) (qc rfl rfl (s_u (o_ld 0 sc22 rfl rfl rfl)) (qc rfl rfl (s_u (o_bld [vS a1.Key, vS a1.Value, vW (a0.version + 1), vW 0] rfl (fun _ => by kernel_rfl))) qn))))))))) ?_ (fun h => absurd h (by decide))
    refine ec (eo_n rfl (s_w (o_al ze50)) fun b11 => ?_) en
    refine stage rfl rfl rfl rfl [0, 1, 0, 4, 0, 16, 48, 112, 255, 0, 1023] [0, 1, 2, 3, 4, 5, 6, 7, 8] [10] rfl rfl rfl (qc rfl rfl (s_u (o_fa fa27_1 rfl)) (qc rfl rfl (s_u (o_ld 3 sc9 rfl rfl rfl)) (qc rfl rfl (s_u (o_fa fa27_2 rfl)) (qc rfl rfl (s_u (o_ld 3 sc9 rfl rfl rfl)) (qc rfl rfl (s_u (o_mv rfl)) (qc rfl rfl (s_u (o_nc rfl)) (qc rfl rfl (s_u (o_fa fa96_6 rfl)) (qc rfl rfl (s_u (o_ld 1 sc22 rfl rfl rfl)) (qc rfl rfl (s_u (o_bld [vS a1.Key, vS a1.Value, vW (a0.version + 1), vW 0] rfl (fun _ => by kernel_rfl))) qn))))))))) ?_ (fun h => absurd h (by decide))
    refine ec (eo_u rfl (s_u (o_stn ag50 rfl rfl rfl rfl rfl rfl rfl)) (Le.refl _) ?_) en
    refine stage rfl rfl rfl rfl [0, 1, 0, 4, 0, 16, 48, 112, 255, 0, 1023] [] [] rfl rfl rfl qn en ?_
    intro _
    refine ex_sub (E' := [(0, pt b0_ 0), (3, pt b7 0), (4, pt b8 0), (5, pt b11 0)]) ⟨rfl, rfl, rfl, rfl, trivial⟩ ?_
    refine x_seq ?_
    refine c_seq ?_
    refine c_seq ?_
    refine c_reg ?_
    refine r_u (o_fa fa27_3 rfl) ?_
    refine r_u (o_ld 3 sc22 rfl rfl rfl) ?_
    refine r_u (o_bin rfl rfl (bW_gt a1.TTL 0)) ?_
    refine r_u (o_mv rfl) ?_
    refine r_s (s_gt rfl rfl fun g => o_mv rfl) ?_
    refine r_s (s_gt rfl rfl fun g => o_nc (evg rfl g)) ?_
    refine r_s (s_gt rfl rfl fun g => o_fa fa96_5 (evg rfl g)) ?_
    refine r_s (s_gt rfl rfl fun g => o_ld 1 sc22 (evg rfl g) rfl rfl) ?_
    refine r_s (s_gt rfl rfl fun g => o_bin (evg rfl g) rfl (bW_lt a0.now 18446744073709551615)) ?_
    refine r_u (o_and rfl rfl) ?_
    refine r_nil ?_
    refine x_seq ?_
    obtain ⟨p12, hp13, hm14⟩ := bs hm10
    refine cd_join (E' := [(0, pt b0_ 0), (3, pt b7 0), (4, pt b8 0), (5, pt b11 0)]) (L' := Bk b11 50 [vS a1.Key, vS a1.Value, vW (a0.version + 1), vW p12] :: Bk b0_ 96 [vI a0.c.Policy, vI a0.c.Entries, vI a0.c.Bytes, vW a0.c.Seed, pv1, pv4, g6, vW a0.seq, vW a0.now, vW (a0.version + 1), vI a0.tally.Asked, vI a0.tally.Hits] :: Bk b8 41 [vI 0, vS [], vW 0] :: Bk b7 27 (api_Op.c a1) :: rO (table_Table.op g2) pv1 a0.t :: rO (policy_Policy.op g5) pv4 a0.p :: OwM vW store_last.v g6 a0.sessions :: F) ?_ fun K15 => ?_
    · refine x_seq ?_
      refine c_seq ?_
      refine cd_st (fun _ h => mv4 h) ?_
      refine cd_opt (fun ho18 => ?_) (fun x16 b17 ho18 => ?_)
      · rintro rfl
        have hm19 := om_n hm14 ho18
        clear hm14
        cases hm19
      · rintro rfl
        have hm19 := om_s hm14 ho18
        clear hm14
        refine cd_st (fun _ h => st_star_o h) ?_
        obtain ⟨r21, hr21, hm22⟩ := ltx hm19
        clear hm19
        refine c_any mixed (effs := [5]) (V := []) ?_
        refine stage_ext [(0, pt b0_ 0), (1, pt b0_ 0), (2, pt b0_ 4), (3, pt b17 0), (4, .agg [vS a1.Key, vS a1.Value, vW (a0.version + 1), vW p12].toArray)] rfl ?_
        refine stage rfl rfl rfl rfl [0, 1, 3, 7, 0, 31] [0, 1, 2, 3, 4] [5] rfl rfl rfl (qc rfl rfl (s_u (o_mv rfl)) (qc rfl rfl (s_u (o_nc rfl)) (qc rfl rfl (s_u (o_fa fa96_1 rfl)) (qc rfl rfl (s_u (o_ld 3 sc92 rfl rfl rfl)) (qc rfl rfl (s_u (o_ldn 2 [vS a1.Key, vS a1.Value, vW (a0.version + 1), vW p12] ag50 rfl rfl rfl rfl)) qn))))) ?_ (fun h => absurd h (by decide))
        refine ec (eo_c rfl (s_w (o_call ca122 rfl (table_Table_Put.ok b17 x16 g2 (⟨a1.Key, a1.Value, a0.version + 1, p12⟩ : api_Entry) r21 hr21))) ?_) en
        refine stage rfl rfl rfl rfl [0, 1, 3, 7, 0, 31] [] [] rfl rfl rfl qn en ?_
        intro _
        refine ex_sub (E' := [(0, pt b0_ 0), (3, pt b7 0), (4, pt b8 0)]) ⟨rfl, rfl, rfl, trivial⟩ ?_
        refine x_seq ?_
        refine c_seq ?_
        refine c_seq ?_
        refine cd_st (fun _ h => mv6 h) ?_
        refine cd_opt (fun ho25 => ?_) (fun x23 b24 ho25 => ?_)
        · rintro rfl
          have hm26 := om_n hm22 ho25
          clear hm22
          cases hm26
        · rintro rfl
          have hm26 := om_s hm22 ho25
          clear hm22
          obtain ⟨⟨pv28, g29⟩, ⟨pv31, g32⟩⟩ := g5
          refine cd_st (fun _ h => st_star_o h) ?_
          obtain ⟨r33, hr33, hm42⟩ := bs hm26
          clear hm26
          refine c_any mixed (effs := [6]) (V := []) ?_
          refine stage_ext [(0, pt b0_ 0), (1, pt b0_ 0), (2, pt b0_ 5), (3, pt b24 0), (4, pt b7 1), (5, vS a1.Key), (8, vI 0)] rfl ?_
          refine stage rfl rfl rfl rfl [0, 1, 3, 7, 0, 16, 63, 127, 0] [0, 1, 2, 3, 4, 5, 8] [6] rfl rfl rfl (qc rfl rfl (s_u (o_mv rfl)) (qc rfl rfl (s_u (o_nc rfl)) (qc rfl rfl (s_u (o_fa fa96_2 rfl)) (qc rfl rfl (s_u (o_ld 6 sc93 rfl rfl rfl)) (qc rfl rfl (s_u (o_fa fa27_1 rfl)) (qc rfl rfl (s_u (o_ld 8 sc9 rfl rfl rfl)) (qc rfl rfl (s_u (o_mv rfl)) qn))))))) ?_ (fun h => absurd h (by decide))
          refine ec (eo_w rfl (s_w (o_call ca123 rfl (policy_Policy_Insert.ok b24 x23 (⟨(pv28, g29), (pv31, g32)⟩ : policy_Policy.G) a1.Key r33 hr33))) ?_) en
          rintro v34 R _ _ ⟨_, ⟨⟨pv37, g38⟩, ⟨pv40, g41⟩⟩, rfl, rfl, rfl⟩
          refine stage_ext [(7, vI (r33.1.length : Int))] rfl ?_
          refine stage rfl rfl rfl rfl [0, 1, 3, 7, 0, 16, 63, 127, 0] [7, 8] [] rfl rfl rfl (qc rfl rfl (s_u (o_lenO 0 Tryz.underlying98 rfl rfl)) (qc rfl rfl (s_u (o_mv rfl)) qn)) en ?_
          intro _
          refine ex_sub (E' := [(0, pt b0_ 0), (4, pt b8 0), (76, v34), (77, vI (r33.1.length : Int)), (78, vI 0)]) ⟨rfl, rfl, rfl, rfl, rfl, trivial⟩ ?_
          refine x_seq ?_
          obtain ⟨p43, hp44, hm45⟩ := bs hm42
          refine cd_join (E' := [(0, pt b0_ 0), (4, pt b8 0)]) (L' := Bk b24 144 [vI r33.2.kind, pv37, pv40] :: Bk b17 138 [g2.m, vI p43.1] :: Bk b11 50 [vS a1.Key, vS a1.Value, vW (a0.version + 1), vW p12] :: Bk b0_ 96 [vI a0.c.Policy, vI a0.c.Entries, vI a0.c.Bytes, vW a0.c.Seed, pt b17 0, pt b24 0, g6, vW a0.seq, vW a0.now, vW (a0.version + 1), vI a0.tally.Asked, vI a0.tally.Hits] :: Bk b8 41 [vI 0, vS [], vW 0] :: Bk b7 27 (api_Op.c a1) :: OwS true 9 1 eS v34 r33.1 :: rO (arc_Arc.op g38) pv37 r33.2.a :: rO (tiny_Tiny.op g41) pv40 r33.2.t :: OwM vS api_Entry.v g2.m p43.2 :: OwM vW store_last.v g6 a0.sessions :: F) ?_ fun K46 => ?_
          · refine x_seq ?_
            refine c_seq ?_
            obtain ⟨p47, hp55, hm56⟩ := bs hm45
            refine cd_cut (fun x ks => ∀ (g48 : policy_Policy.G), EX x .normal ks [(0, pt b0_ 0), (4, pt b8 0)] R (Bk b24 144 [vI p47.1.kind, g48.a.1, g48.t.1] :: Bk b17 138 [g2.m, vI p47.2.1] :: Bk b11 50 [vS a1.Key, vS a1.Value, vW (a0.version + 1), vW p12] :: Bk b0_ 96 [vI a0.c.Policy, vI a0.c.Entries, vI a0.c.Bytes, vW a0.c.Seed, pt b17 0, pt b24 0, g6, vW a0.seq, vW a0.now, vW (a0.version + 1), vI a0.tally.Asked, vI a0.tally.Hits] :: Bk b8 41 [vI 0, vS [], vW 0] :: Bk b7 27 (api_Op.c a1) :: OwS true 9 1 eS v34 r33.1 :: OwM vS api_Entry.v g2.m p47.2.2 :: OwM vW store_last.v g6 a0.sessions :: rO (arc_Arc.op g48.a.2) g48.a.1 p47.1.a :: rO (tiny_Tiny.op g48.t.2) g48.t.1 p47.1.t :: F)) ?_ fun K57 => ?_
            · intro g48
              obtain ⟨⟨pv50, g51⟩, ⟨pv53, g54⟩⟩ := g48
              refine x_seq ?_
              refine c_seq ?_
              refine c_reg ?_
              refine r_u (o_mv rfl) ?_
              refine r_u (o_nc rfl) ?_
              refine r_u (o_fa fa96_6 rfl) ?_
              refine r_u (o_ld 3 sc22 rfl rfl rfl) ?_
              refine r_u (o_bld [vI 0, vS [], vW (a0.version + 1)] rfl (fun _ => by kernel_rfl)) ?_
              refine rl_st (fun _ h => mv4 h) ?_
              refine r_u0 (o_stn ag41 rfl rfl rfl rfl rfl rfl rfl) ?_
              refine r_nil ?_
              refine x_seq ?_
              refine c_ret ?_
              refine ex_st (fun _ h => mv3 (mv7 h)) ?_
              refine ex_st (fun _ h => st_some (f := table_Table.op g2) (a := (⟨p47.2.2, p47.2.1⟩ : table_Table)) (st_star_f (A := table_Table.fl b17 (⟨p47.2.2, p47.2.1⟩ : table_Table) g2) h)) ?_
              refine ex_st (fun _ h => mv4 (mv9 (mv9 h))) ?_
              refine ex_st (fun _ h => st_some (f := policy_Policy.op (⟨(pv50, g51), (pv53, g54)⟩ : policy_Policy.G)) (a := p47.1) (st_star_f (A := policy_Policy.fl b24 p47.1 (⟨(pv50, g51), (pv53, g54)⟩ : policy_Policy.G)) h)) ?_
              obtain rfl := Option.some.inj hm56
              exact x_d1 rfl (rv_n 2 [vI 0, vS [], vW (a0.version + 1)] ag41 rfl rfl rfl rfl) (fun _ h => st_pk 8 [4, 1, 0, 7] (by decide) h) (Le.refl _) ⟨_, rfl, (⟨(pt b17 0, g2), (pt b24 0, (⟨(pv50, g51), (pv53, g54)⟩ : policy_Policy.G)), g6⟩ : store_Store.G), rfl, rfl, rfl⟩
            · refine c_blk ?_
              refine cd_loopG (M := fun k68 (s : policy_Policy × Int × (List (Str × api_Entry)) × policy_Policy.G) => store_Store_put_l0 a0 k68 s.1 s.2.1 s.2.2.1 = some p47) (Ef := fun (s : policy_Policy × Int × (List (Str × api_Entry)) × policy_Policy.G) => [(0, pt b0_ 0), (4, pt b8 0)]) (Rf := fun (s : policy_Policy × Int × (List (Str × api_Entry)) × policy_Policy.G) => R) (Lf := fun (s : policy_Policy × Int × (List (Str × api_Entry)) × policy_Policy.G) => Bk b24 144 [vI s.1.kind, s.2.2.2.a.1, s.2.2.2.t.1] :: Bk b17 138 [g2.m, vI s.2.1] :: Bk b11 50 [vS a1.Key, vS a1.Value, vW (a0.version + 1), vW p12] :: Bk b0_ 96 [vI a0.c.Policy, vI a0.c.Entries, vI a0.c.Bytes, vW a0.c.Seed, pt b17 0, pt b24 0, g6, vW a0.seq, vW a0.now, vW (a0.version + 1), vI a0.tally.Asked, vI a0.tally.Hits] :: Bk b8 41 [vI 0, vS [], vW 0] :: Bk b7 27 (api_Op.c a1) :: OwS true 9 1 eS v34 r33.1 :: OwM vS api_Entry.v g2.m s.2.2.1 :: OwM vW store_last.v g6 a0.sessions :: rO (arc_Arc.op s.2.2.2.a.2) s.2.2.2.a.1 s.1.a :: rO (tiny_Tiny.op s.2.2.2.t.2) s.2.2.2.t.1 s.1.t :: F) 1100 (r33.2, p43.1, p43.2, (⟨(pv37, g38), (pv40, g41)⟩ : policy_Policy.G)) hp55 ⟨rfl, rfl, trivial⟩ (fun _ h => st_pk 11 [0, 1, 2, 3, 4, 5, 6, 9, 10, 7, 8] (by decide) h) (fun _ h => by cases h) fun k68 s hM70 => ?_
              obtain ⟨c_58, c_59, c_60, g61⟩ := s
              have hm69 : store_Store_put_l0 a0 (k68 + 1) c_58 c_59 c_60 = some p47 := hM70
              rw [store_Store_put_l0] at hm69
              obtain ⟨⟨pv63, g64⟩, ⟨pv66, g67⟩⟩ := g61
              refine c_seq ?_
              refine c_seq ?_
              refine c_any mixed (effs := []) (V := []) ?_
              refine stage_ext [(0, pt b0_ 0), (1, pt b0_ 0), (2, pt b0_ 4), (3, pt b17 0), (4, vI (table_Table_Bytes (⟨c_60, c_59⟩ : table_Table))), (5, pt b0_ 0), (6, pt b0_ 0), (7, pt b0_ 0), (8, pt b0_ 2), (9, vI a0.c.Bytes), (10, vB (decide (a0.c.Bytes < (table_Table_Bytes (⟨c_60, c_59⟩ : table_Table)))))] rfl ?_
              refine stage rfl rfl rfl rfl [0, 1, 3, 7, 15, 0, 32, 96, 224, 480, 1023] [0, 1, 2, 3, 4, 5, 6, 7, 8, 9, 10] [] rfl rfl rfl (qc rfl rfl (s_u (o_mv rfl)) (qc rfl rfl (s_u (o_nc rfl)) (qc rfl rfl (s_u (o_fa fa96_1 rfl)) (qc rfl rfl (s_u (o_ld 3 sc92 rfl rfl rfl)) (qc rfl rfl (s_u (o_callqP ca107 rfl (table_Table_Bytes.ok b17 (⟨c_60, c_59⟩ : table_Table) g2 _ rfl) (fun _ h => st_pk 11 [1, 7, 0, 2, 3, 4, 5, 6, 8, 9, 10] (by decide) h) (fun _ h => st_pk 11 [2, 0, 3, 4, 5, 6, 7, 1, 8, 9, 10] (by decide) h))) (qc rfl rfl (s_u (o_mv rfl)) (qc rfl rfl (s_u (o_nc rfl)) (qc rfl rfl (s_u (o_fa fa96_0 rfl)) (qc rfl rfl (s_u (o_fa fa24_2 rfl)) (qc rfl rfl (s_u (o_ld 3 sc3 rfl rfl rfl)) (qc rfl rfl (s_u (o_bin rfl rfl (bI_gt (table_Table_Bytes (⟨c_60, c_59⟩ : table_Table)) a0.c.Bytes))) qn))))))))))) en ?_
              intro _
              refine ex_sub (E' := [(0, pt b0_ 0), (4, pt b8 0), (99, vB (decide (a0.c.Bytes < (table_Table_Bytes (⟨c_60, c_59⟩ : table_Table)))))]) ⟨rfl, rfl, rfl, trivial⟩ ?_
              refine x_seq ?_
              refine c_if (b := decide (a0.c.Bytes < (table_Table_Bytes (⟨c_60, c_59⟩ : table_Table)))) rfl (fun h71 => ?_) fun h71 => ?_
              · have hm72 := ift hm69 h71
                clear hm69
                refine c_skip ?_
                refine x_seq ?_
                refine c_blk ?_
                refine c_seq ?_
                refine c_reg ?_
                refine r_u (o_mv rfl) ?_
                refine r_u (o_nc rfl) ?_
                refine r_u (o_fa fa96_2 rfl) ?_
                refine r_u (o_ld 3 sc93 rfl rfl rfl) ?_
                obtain ⟨r73, hr73, hm81⟩ := bs hm72
                clear hm72
                refine rl_st (fun _ h => mv2 (mv10 (mv10 h))) ?_
                refine r_sw (s_w (o_call ca124 rfl (policy_Policy_Evict.ok b24 c_58 (⟨(pv63, g64), (pv66, g67)⟩ : policy_Policy.G) r73 hr73))) ?_
                rintro _ R _ _ ⟨⟨⟨pv76, g77⟩, ⟨pv79, g80⟩⟩, rfl, rfl, rfl⟩
                refine r_u (o_mv rfl) ?_
                refine r_u (o_ext rfl rfl) ?_
                refine r_u (o_ext rfl rfl) ?_
                refine r_u (o_as rfl) ?_
                refine r_u (o_as rfl) ?_
                refine r_nil ?_
                refine x_seq ?_
                refine c_seq ?_
                refine c_seq ?_
                refine c_reg ?_
                refine r_u (o_mv rfl) ?_
                refine r_u (o_not rfl) ?_
                refine r_nil ?_
                refine x_seq ?_
                refine c_if (b := !r73.2.1) rfl (fun h82 => ?_) fun h82 => ?_
                · have hm83 := ift hm81 h82
                  clear hm81
                  refine c_exit (x_exit (ks' := _) rfl ?_)
                  obtain rfl := Option.some.inj hm83
                  exact x_sub (K57 (⟨(pv76, g77), (pv79, g80)⟩ : policy_Policy.G)) ⟨rfl, rfl, trivial⟩ (fun _ h => st_pk 11 [0, 3, 4, 5, 6, 7, 8, 9, 10, 1, 2] (by decide) h)
                · have hm83 := iff_ hm81 h82
                  clear hm81
                  refine c_skip ?_
                  refine x_seq ?_
                  refine c_reg ?_
                  refine r_u (o_mv rfl) ?_
                  refine r_u (o_nc rfl) ?_
                  refine r_u (o_fa fa96_1 rfl) ?_
                  refine r_u (o_ld 5 sc92 rfl rfl rfl) ?_
                  refine r_u (o_mv rfl) ?_
                  obtain ⟨r84, hr84, hm85⟩ := ltx hm83
                  clear hm83
                  refine rl_st (fun _ h => mv4 (mv9 h)) ?_
                  refine r_c (s_w (o_call ca36 rfl (table_Table_Drop.ok b17 (⟨c_60, c_59⟩ : table_Table) g2 r73.1 r84 hr84))) ?_
                  refine r_nil ?_
                  refine x_blk ?_
                  exact x_lp (r73.2.2, r84.2.bytes, r84.2.m, (⟨(pv76, g77), (pv79, g80)⟩ : policy_Policy.G)) hm85 ⟨rfl, rfl, trivial⟩ (fun _ h => st_pk 11 [2, 0, 5, 6, 7, 8, 9, 1, 10, 3, 4] (by decide) h)
              · have hm72 := iff_ hm69 h71
                clear hm69
                refine c_exit (x_exit (ks' := _) rfl ?_)
                obtain rfl := Option.some.inj hm72
                exact x_sub (K57 (⟨(pv63, g64), (pv66, g67)⟩ : policy_Policy.G)) ⟨rfl, rfl, trivial⟩ (fun _ h => st_pk 11 [0, 1, 2, 3, 4, 5, 6, 7, 8, 9, 10] (by decide) h)
          · refine c_blk ?_
            refine cd_loop (M := fun k89 (s : Int × Int × (List (Str × api_Entry))) => store_Store_put_l1 r33 k89 s.1 s.2.1 s.2.2 = some p43) (Ef := fun (s : Int × Int × (List (Str × api_Entry))) => [(0, pt b0_ 0), (4, pt b8 0), (76, v34), (77, vI (r33.1.length : Int)), (78, vI s.1)]) (Lf := fun (s : Int × Int × (List (Str × api_Entry))) => Bk b24 144 [vI r33.2.kind, pv37, pv40] :: Bk b17 138 [g2.m, vI s.2.1] :: Bk b11 50 [vS a1.Key, vS a1.Value, vW (a0.version + 1), vW p12] :: Bk b0_ 96 [vI a0.c.Policy, vI a0.c.Entries, vI a0.c.Bytes, vW a0.c.Seed, pt b17 0, pt b24 0, g6, vW a0.seq, vW a0.now, vW (a0.version + 1), vI a0.tally.Asked, vI a0.tally.Hits] :: Bk b8 41 [vI 0, vS [], vW 0] :: Bk b7 27 (api_Op.c a1) :: OwS true 9 1 eS v34 r33.1 :: rO (arc_Arc.op g38) pv37 r33.2.a :: rO (tiny_Tiny.op g41) pv40 r33.2.t :: OwM vS api_Entry.v g2.m s.2.2 :: OwM vW store_last.v g6 a0.sessions :: F) (((r33.1.length : Int) - 0).toNat + 1) (0, r21.bytes, r21.m) hp44 ⟨rfl, rfl, rfl, rfl, rfl, trivial⟩ (fun _ h => st_pk 11 [1, 4, 6, 7, 8, 9, 0, 2, 3, 5, 10] (by decide) h) (fun _ h => by cases h) fun k89 s hM91 => ?_
            obtain ⟨s_86, c_87, c_88⟩ := s
            have hm90 : store_Store_put_l1 r33 (k89 + 1) s_86 c_87 c_88 = some p43 := hM91
            rw [store_Store_put_l1] at hm90
            refine c_seq ?_
            refine c_reg ?_
            refine r_u (o_bin rfl rfl (bI_lt s_86 (r33.1.length : Int))) ?_
            refine r_nil ?_
            refine x_seq ?_
            refine c_seq ?_
            refine c_if (b := decide (s_86 < (r33.1.length : Int))) rfl (fun h92 => ?_) fun h92 => ?_
            · have hm93 := ift hm90 h92
              clear hm90
              refine c_skip ?_
              refine x_seq ?_
              refine c_seq ?_
              refine c_blk ?_
              refine c_seq ?_
              refine c_reg ?_
              obtain ⟨x94, hx94, hm95⟩ := bs hm93
              clear hm93
              refine r_u (o_ixO 6 Tryz.underlying98 (fun _ => by kernel_rfl) rfl rfl rfl hx94) ?_
              refine r_u (o_ldO0 6 sc9 rfl rfl hx94 rfl rfl) ?_
              refine r_u (o_as rfl) ?_
              refine r_nil ?_
              refine x_seq ?_
              refine c_reg ?_
              refine r_u (o_mv rfl) ?_
              refine r_u (o_nc rfl) ?_
              refine r_u (o_fa fa96_1 rfl) ?_
              refine r_u (o_ld 3 sc92 rfl rfl rfl) ?_
              refine r_u (o_mv rfl) ?_
              obtain ⟨r96, hr96, hm97⟩ := ltx hm95
              clear hm95
              refine rl_st (fun _ h => mv2 (mv9 h)) ?_
              refine r_c (s_w (o_call ca36 rfl (table_Table_Drop.ok b17 (⟨c_88, c_87⟩ : table_Table) g2 x94 r96 hr96))) ?_
              refine r_nil ?_
              refine x_blk ?_
              refine x_seq ?_
              refine c_reg ?_
              refine r_u (o_bin rfl rfl (bI_add s_86 1)) ?_
              refine r_u (o_mv rfl) ?_
              refine r_nil ?_
              exact x_lp (i64 (s_86 + 1), r96.2.bytes, r96.2.m) hm97 ⟨rfl, rfl, rfl, rfl, rfl, trivial⟩ (fun _ h => st_pk 11 [2, 0, 3, 4, 5, 6, 7, 8, 9, 1, 10] (by decide) h)
            · have hm93 := iff_ hm90 h92
              clear hm90
              refine c_exit (x_exit (ks' := _) rfl ?_)
              obtain rfl := Option.some.inj hm93
              exact x_sub K46 ⟨rfl, rfl, trivial⟩ (fun _ h => st_pk 11 [0, 1, 2, 3, 4, 5, 6, 7, 8, 9, 10] (by decide) h)
    · refine c_if (b := (decide (0 < a1.TTL) && decide (a0.now < 18446744073709551615))) rfl (fun h98 => ?_) fun h98 => ?_
      · have hm99 := ift hp13 h98
        clear hp13
        refine c_any mixed (effs := [14]) (V := []) ?_
        refine stage_ext [(0, pt b0_ 0), (1, pt b0_ 0), (2, pt b0_ 8), (3, vW a0.now), (4, pt b7 3), (5, vW a1.TTL), (6, pt b0_ 0), (7, pt b0_ 0), (8, pt b0_ 8), (9, vW a0.now), (10, vW (18446744073709551615 - a0.now)), (11, vW (if (18446744073709551615 - a0.now) < a1.TTL then 18446744073709551615 - a0.now else a1.TTL)), (12, vW (a0.now + (if (18446744073709551615 - a0.now) < a1.TTL then 18446744073709551615 - a0.now else a1.TTL))), (13, pt b11 3)] rfl ?_
        refine stage rfl rfl rfl rfl [0, 1, 3, 7, 0, 16, 0, 64, 192, 448, 960, 2032, 4095, 8191, 16383] [0, 1, 2, 3, 4, 5, 6, 7, 8, 9, 10, 11, 12, 13] [14] rfl rfl rfl (qc rfl rfl (s_u (o_mv rfl)) (qc rfl rfl (s_u (o_nc rfl)) (qc rfl rfl (s_u (o_fa fa96_5 rfl)) (qc rfl rfl (s_u (o_ld 1 sc22 rfl rfl rfl)) (qc rfl rfl (s_u (o_fa fa27_3 rfl)) (qc rfl rfl (s_u (o_ld 3 sc22 rfl rfl rfl)) (qc rfl rfl (s_u (o_mv rfl)) (qc rfl rfl (s_u (o_nc rfl)) (qc rfl rfl (s_u (o_fa fa96_5 rfl)) (qc rfl rfl (s_u (o_ld 1 sc22 rfl rfl rfl)) (qc rfl rfl (s_u (o_bin rfl rfl (bW_sub 18446744073709551615 a0.now))) (qc rfl rfl (s_u (o_minW rfl rfl)) (qc rfl rfl (s_u (o_bin rfl rfl (bW_add a0.now (if (18446744073709551615 - a0.now) < a1.TTL then 18446744073709551615 - a0.now else a1.TTL)))) (qc rfl rfl (s_u (o_fa fa50_3 rfl)) qn)))))))))))))) ?_ (fun h => absurd h (by decide))
        refine ec (eo_u rfl (s_u (o_st sc22 rfl rfl rfl rfl rfl rfl)) (Le.refl _) ?_) en
        refine stage rfl rfl rfl rfl [0, 1, 3, 7, 0, 16, 0, 64, 192, 448, 960, 2032, 4095, 8191, 16383] [] [] rfl rfl rfl qn en ?_
        intro _
        refine ex_sub (E' := [(0, pt b0_ 0), (3, pt b7 0), (4, pt b8 0), (5, pt b11 0)]) ⟨rfl, rfl, rfl, rfl, trivial⟩ ?_
        obtain rfl := Option.some.inj hm99
        exact x_sub K15 ⟨rfl, rfl, rfl, rfl, trivial⟩ (fun _ h => st_pk 7 [0, 1, 2, 3, 4, 5, 6] (by decide) h)
      · have hm99 := iff_ hp13 h98
        clear hp13
        refine c_skip ?_
        obtain rfl := Option.some.inj hm99
        exact x_sub K15 ⟨rfl, rfl, rfl, rfl, trivial⟩ (fun _ h => st_pk 7 [0, 1, 2, 3, 4, 5, 6] (by decide) h)

def store_Store_do (a0 : store_Store) (a1 : api_Op) : Option (api_Reply × store_Store) :=
  om a0.t (none) fun x9 => lt (table_Table_Get x9 a1.Key) fun r14 => if (a1.Kind == 1) then if !r14.2 then om a0.p (none) fun x21 => (policy_Policy_Miss x21 a1.Key).bind fun r31 => some ((⟨2, [], 0⟩ : api_Reply), (⟨a0.c, a0.t, (some r31), a0.sessions, a0.seq, a0.now, a0.version, (⟨i64 (a0.tally.Asked + 1), a0.tally.Hits⟩ : api_Tally)⟩ : store_Store)) else om a0.p (none) fun x33 => (policy_Policy_Touch x33 a1.Key).bind fun r43 => some ((⟨0, r14.1.Value, r14.1.Version⟩ : api_Reply), (⟨a0.c, a0.t, (some r43.2), a0.sessions, a0.seq, a0.now, a0.version, (⟨i64 (a0.tally.Asked + 1), i64 (a0.tally.Hits + 1)⟩ : api_Tally)⟩ : store_Store)) else if (a1.Kind == 3) then if !r14.2 then some ((⟨2, [], 0⟩ : api_Reply), a0) else lt (table_Table_Drop x9 a1.Key) fun r56 => om a0.p (none) fun x58 => (policy_Policy_Remove x58 a1.Key).bind fun r68 => some ((⟨0, [], r14.1.Version⟩ : api_Reply), (⟨a0.c, (some r56.2), (some r68.2), a0.sessions, a0.seq, a0.now, a0.version, a0.tally⟩ : store_Store)) else if (a1.Kind == 4) then if !r14.2 then some ((⟨2, [], 0⟩ : api_Reply), a0) else if (r14.1.Version != a1.Version) then some ((⟨121, [], r14.1.Version⟩ : api_Reply), a0) else (store_Store_put (⟨a0.c, (some x9), a0.p, a0.sessions, a0.seq, a0.now, a0.version, a0.tally⟩ : store_Store) a1).bind fun r83 => some (r83.1, r83.2) else (store_Store_put (⟨a0.c, (some x9), a0.p, a0.sessions, a0.seq, a0.now, a0.version, a0.tally⟩ : store_Store) a1).bind fun r93 => some (r93.1, r93.2)
theorem store_Store_do.ok {G R F} (b0_ : Nat) (a0 : store_Store) (g0_ : store_Store.G) (a1 : api_Op) (r : api_Reply × store_Store) (hm : store_Store_do a0 a1 = some r) : CO Tryz.prog 38 [pt b0_ 0, .agg (api_Op.c a1).toArray] G R (Bk b0_ 96 [vI a0.c.Policy, vI a0.c.Entries, vI a0.c.Bytes, vW a0.c.Seed, g0_.t.1, g0_.p.1, g0_.sessions, vW a0.seq, vW a0.now, vW a0.version, vI a0.tally.Asked, vI a0.tally.Hits] :: rO (table_Table.op g0_.t.2) g0_.t.1 a0.t :: rO (policy_Policy.op g0_.p.2) g0_.p.1 a0.p :: OwM vW store_last.v g0_.sessions a0.sessions :: F)
    (Ret fun u R' L' => ∃ (q0 : store_Store.G), u = .agg (api_Reply.c r.1).toArray ∧ R' = R ∧ L' = Bk b0_ 96 [vI r.2.c.Policy, vI r.2.c.Entries, vI r.2.c.Bytes, vW r.2.c.Seed, q0.t.1, q0.p.1, q0.sessions, vW r.2.seq, vW r.2.now, vW r.2.version, vI r.2.tally.Asked, vI r.2.tally.Hits] :: rO (table_Table.op q0.t.2) q0.t.1 r.2.t :: rO (policy_Policy.op q0.p.2) q0.p.1 r.2.p :: OwM vW store_last.v q0.sessions r.2.sessions :: F) := by
  obtain ⟨⟨pv1, g2⟩, ⟨pv4, g5⟩, g6⟩ := g0_
  unfold store_Store_do at hm
  refine co_ofN (N := 99) Tryz.func38 rfl rfl ?_
  refine c_seq ?_
  refine c_reg ?_
  refine r_new (o_bx (api_Op.c a1) rfl rfl) fun b7 => ?_
  refine r_new (o_al ze41) fun b8 => ?_
  refine r_nil ?_
  refine x_seq ?_
  refine c_seq ?_
  refine cd_st (fun _ h => mv3 h) ?_
  refine cd_opt (fun ho11 => ?_) (fun x9 b10 ho11 => ?_)
  · rintro rfl
    have hm12 := om_n hm ho11
    clear hm
    cases hm12
  · rintro rfl
    have hm12 := om_s hm ho11
    clear hm
    refine cd_st (fun _ h => st_star_o h) ?_
    obtain ⟨r14, hr14, hm15⟩ := ltx hm12
    clear hm12
    refine c_any mixed (effs := [10, 11]) (V := []) ?_
    refine stage_ext [(0, pt b0_ 0), (1, pt b0_ 0), (2, pt b0_ 4), (3, pt b10 0), (4, pt b7 1), (5, vS a1.Key), (6, .tuple #[.agg (api_Entry.c r14.1).toArray, vB r14.2]), (7, .tuple #[.agg (api_Entry.c r14.1).toArray, vB r14.2]), (8, .agg (api_Entry.c r14.1).toArray), (9, vB r14.2)] rfl ?_
    refine stage rfl rfl rfl rfl [0, 1, 3, 7, 0, 16, 63, 127, 255, 255, 0, 1535, 4095] [0, 1, 2, 3, 4, 5, 6, 7, 8, 9] [10] rfl rfl rfl (qc rfl rfl (s_u (o_mv rfl)) (qc rfl rfl (s_u (o_nc rfl)) (qc rfl rfl (s_u (o_fa fa96_1 rfl)) (qc rfl rfl (s_u (o_ld 4 sc92 rfl rfl rfl)) (qc rfl rfl (s_u (o_fa fa27_1 rfl)) (qc rfl rfl (s_u (o_ld 3 sc9 rfl rfl rfl)) (qc rfl rfl (s_u (o_callqP ca40 rfl (table_Table_Get.ok b10 x9 g2 a1.Key r14 hr14) (fun _ h => st_pk 7 [0, 1, 2, 3, 4, 5, 6] (by decide) h) (fun _ h => st_pk 7 [0, 1, 2, 3, 4, 5, 6] (by decide) h))) (qc rfl rfl (s_u (o_mv rfl)) (qc rfl rfl (s_u (o_ext rfl rfl)) (qc rfl rfl (s_u (o_ext rfl rfl)) qn)))))))))) ?_ (fun h => absurd h (by decide))
    refine ec (eo_n rfl (s_w (o_al ze50)) fun b16 => ?_) en
    refine stage rfl rfl rfl rfl [0, 1, 3, 7, 0, 16, 63, 127, 255, 255, 0, 1535, 4095] [0, 1, 2, 3, 4, 5, 6, 7, 8, 9] [11] rfl rfl rfl (qc rfl rfl (s_u (o_mv rfl)) (qc rfl rfl (s_u (o_nc rfl)) (qc rfl rfl (s_u (o_fa fa96_1 rfl)) (qc rfl rfl (s_u (o_ld 5 sc92 rfl rfl rfl)) (qc rfl rfl (s_u (o_fa fa27_1 rfl)) (qc rfl rfl (s_u (o_ld 4 sc9 rfl rfl rfl)) (qc rfl rfl (s_u (o_callqP ca40 rfl (table_Table_Get.ok b10 x9 g2 a1.Key r14 hr14) (fun _ h => st_pk 8 [1, 2, 0, 3, 4, 5, 6, 7] (by decide) h) (fun _ h => st_pk 8 [2, 0, 1, 3, 4, 5, 6, 7] (by decide) h))) (qc rfl rfl (s_u (o_mv rfl)) (qc rfl rfl (s_u (o_ext rfl rfl)) (qc rfl rfl (s_u (o_ext rfl rfl)) qn)))))))))) ?_ (fun h => absurd h (by decide))
    refine ec (eo_u rfl (s_u (o_stn ag50 rfl rfl rfl rfl rfl rfl rfl)) (Le.refl _) ?_) en
    refine stage_ext [(12, vB r14.2)] rfl ?_
    refine stage rfl rfl rfl rfl [0, 1, 3, 7, 0, 16, 63, 127, 255, 255, 0, 1535, 4095] [9, 12] [] rfl rfl rfl (qc rfl rfl (s_u (o_ext rfl rfl)) (qc rfl rfl (s_u (o_as rfl)) qn)) en ?_
    intro _
    refine ex_sub (E' := [(0, pt b0_ 0), (3, pt b7 0), (4, pt b8 0), (5, pt b16 0), (6, vB r14.2)]) ⟨rfl, rfl, rfl, rfl, rfl, trivial⟩ ?_
    refine x_seq ?_
    refine c_seq ?_
    refine c_seq ?_
    refine c_reg ?_
    refine r_u (o_fa fa27_0 rfl) ?_
    refine r_u (o_ld 4 sc3 rfl rfl rfl) ?_
    refine r_nil ?_
    refine x_seq ?_
    refine c_blk ?_
    refine c_seq ?_
    refine c_reg ?_
    refine r_u (o_bin rfl rfl (bI_eq a1.Kind 1)) ?_
    refine r_u (o_as rfl) ?_
    refine r_nil ?_
    refine x_seq ?_
    refine c_if (b := (a1.Kind == 1)) rfl (fun h17 => ?_) fun h17 => ?_
    · have hm18 := ift hm15 h17
      clear hm15
      refine c_seq ?_
      refine c_reg ?_
      refine r_u (o_mv rfl) ?_
      refine r_u (o_nc rfl) ?_
      refine r_u (o_fa fa96_7 rfl) ?_
      refine r_u (o_fa fa47_0 rfl) ?_
      refine r_u (o_ld 5 sc2 rfl rfl rfl) ?_
      refine r_u (o_bin rfl rfl (bI_add a0.tally.Asked 1)) ?_
      refine r_u (o_nc rfl) ?_
      refine r_u (o_fa fa96_7 rfl) ?_
      refine r_u (o_fa fa47_0 rfl) ?_
      refine rl_st (fun _ h => mv5 h) ?_
      refine r_u0 (o_st sc2 rfl rfl rfl rfl rfl rfl) ?_
      refine r_nil ?_
      refine x_seq ?_
      refine c_seq ?_
      refine c_seq ?_
      refine c_reg ?_
      refine r_u (o_mv rfl) ?_
      refine r_u (o_not rfl) ?_
      refine r_nil ?_
      refine x_seq ?_
      refine c_if (b := !r14.2) rfl (fun h19 => ?_) fun h19 => ?_
      · have hm20 := ift hm18 h19
        clear hm18
        refine c_seq ?_
        refine cd_st (fun _ h => mv6 h) ?_
        refine cd_opt (fun ho23 => ?_) (fun x21 b22 ho23 => ?_)
        · rintro rfl
          have hm24 := om_n hm20 ho23
          clear hm20
          cases hm24
        · rintro rfl
          have hm24 := om_s hm20 ho23
          clear hm20
          obtain ⟨⟨pv26, g27⟩, ⟨pv29, g30⟩⟩ := g5
          refine cd_st (fun _ h => st_star_o h) ?_
          obtain ⟨r31, hr31, hm32⟩ := bs hm24
          clear hm24
          refine c_any mixed (effs := [6]) (V := []) ?_
          refine stage_ext [(0, pt b0_ 0), (1, pt b0_ 0), (2, pt b0_ 5), (3, pt b22 0), (4, pt b7 1), (5, vS a1.Key)] rfl ?_
          refine stage rfl rfl rfl rfl [0, 1, 3, 7, 0, 16, 63] [0, 1, 2, 3, 4, 5] [6] rfl rfl rfl (qc rfl rfl (s_u (o_mv rfl)) (qc rfl rfl (s_u (o_nc rfl)) (qc rfl rfl (s_u (o_fa fa96_2 rfl)) (qc rfl rfl (s_u (o_ld 3 sc93 rfl rfl rfl)) (qc rfl rfl (s_u (o_fa fa27_1 rfl)) (qc rfl rfl (s_u (o_ld 8 sc9 rfl rfl rfl)) qn)))))) ?_ (fun h => absurd h (by decide))
          refine ec (eo_c rfl (s_w (o_call ca70 rfl (policy_Policy_Miss.ok b22 x21 (⟨(pv26, g27), (pv29, g30)⟩ : policy_Policy.G) a1.Key r31 hr31))) ?_) en
          refine stage rfl rfl rfl rfl [0, 1, 3, 7, 0, 16, 63] [] [] rfl rfl rfl qn en ?_
          intro _
          refine ex_sub (E' := [(4, pt b8 0)]) ⟨rfl, trivial⟩ ?_
          refine x_seq ?_
          refine c_seq ?_
          refine c_reg ?_
          refine r_u (o_bld [vI 2, vS [], vW 0] rfl (fun _ => by kernel_rfl)) ?_
          refine rl_st (fun _ h => mv7 h) ?_
          refine r_u0 (o_stn ag41 rfl rfl rfl rfl rfl rfl rfl) ?_
          refine r_nil ?_
          refine x_seq ?_
          refine c_ret ?_
          refine ex_st (fun _ h => mv7 (mv7 h)) ?_
          refine ex_st (fun _ h => st_some (f := table_Table.op g2) (a := x9) (st_star_f (A := table_Table.fl b10 x9 g2) h)) ?_
          refine ex_st (fun _ h => mv4 (mv4 (mv4 h))) ?_
          refine ex_st (fun _ h => st_some (f := policy_Policy.op (⟨(pv26, g27), (pv29, g30)⟩ : policy_Policy.G)) (a := r31) (st_star_f (A := policy_Policy.fl b22 r31 (⟨(pv26, g27), (pv29, g30)⟩ : policy_Policy.G)) h)) ?_
          refine ex_st (fun _ h => mv1 h) ?_
          refine ex_st (fun _ h => st_back ho11 h) ?_
          obtain rfl := Option.some.inj hm32
          exact x_d1 rfl (rv_n 2 [vI 2, vS [], vW 0] ag41 rfl rfl rfl rfl) (fun _ h => st_pk 7 [3, 0, 1, 6] (by decide) h) (Le.refl _) ⟨_, rfl, (⟨(pt b10 0, g2), (pt b22 0, (⟨(pv26, g27), (pv29, g30)⟩ : policy_Policy.G)), g6⟩ : store_Store.G), rfl, rfl, rfl⟩
      · have hm20 := iff_ hm18 h19
        clear hm18
        refine c_skip ?_
        refine x_seq ?_
        refine c_seq ?_
        refine c_reg ?_
        refine r_u (o_mv rfl) ?_
        refine r_u (o_nc rfl) ?_
        refine r_u (o_fa fa96_7 rfl) ?_
        refine r_u (o_fa fa47_1 rfl) ?_
        refine r_u (o_ld 0 sc2 rfl rfl rfl) ?_
        refine r_u (o_bin rfl rfl (bI_add a0.tally.Hits 1)) ?_
        refine r_u (o_nc rfl) ?_
        refine r_u (o_fa fa96_7 rfl) ?_
        refine r_u (o_fa fa47_1 rfl) ?_
        refine r_u0 (o_st sc2 rfl rfl rfl rfl rfl rfl) ?_
        refine r_nil ?_
        refine x_seq ?_
        refine c_seq ?_
        refine cd_st (fun _ h => mv6 h) ?_
        refine cd_opt (fun ho35 => ?_) (fun x33 b34 ho35 => ?_)
        · rintro rfl
          have hm36 := om_n hm20 ho35
          clear hm20
          cases hm36
        · rintro rfl
          have hm36 := om_s hm20 ho35
          clear hm20
          obtain ⟨⟨pv38, g39⟩, ⟨pv41, g42⟩⟩ := g5
          refine cd_st (fun _ h => st_star_o h) ?_
          obtain ⟨r43, hr43, hm51⟩ := bs hm36
          clear hm36
          refine c_any mixed (effs := [6]) (V := []) ?_
          refine stage_ext [(0, pt b0_ 0), (1, pt b0_ 0), (2, pt b0_ 5), (3, pt b34 0), (4, pt b7 1), (5, vS a1.Key)] rfl ?_
          refine stage rfl rfl rfl rfl [0, 1, 3, 7, 0, 16, 63] [0, 1, 2, 3, 4, 5] [6] rfl rfl rfl (qc rfl rfl (s_u (o_mv rfl)) (qc rfl rfl (s_u (o_nc rfl)) (qc rfl rfl (s_u (o_fa fa96_2 rfl)) (qc rfl rfl (s_u (o_ld 3 sc93 rfl rfl rfl)) (qc rfl rfl (s_u (o_fa fa27_1 rfl)) (qc rfl rfl (s_u (o_ld 8 sc9 rfl rfl rfl)) qn)))))) ?_ (fun h => absurd h (by decide))
          refine ec (eo_w rfl (s_w (o_call ca71 rfl (policy_Policy_Touch.ok b34 x33 (⟨(pv38, g39), (pv41, g42)⟩ : policy_Policy.G) a1.Key r43 hr43))) ?_) en
          rintro _ R _ _ ⟨⟨⟨pv46, g47⟩, ⟨pv49, g50⟩⟩, rfl, rfl, rfl⟩
          refine stage rfl rfl rfl rfl [0, 1, 3, 7, 0, 16, 63] [] [] rfl rfl rfl qn en ?_
          intro _
          refine ex_sub (E' := [(4, pt b8 0), (5, pt b16 0)]) ⟨rfl, rfl, trivial⟩ ?_
          refine x_seq ?_
          refine c_seq ?_
          refine c_reg ?_
          refine r_u (o_fa fa50_1 rfl) ?_
          refine r_u (o_ld 4 sc9 rfl rfl rfl) ?_
          refine r_u (o_fa fa50_2 rfl) ?_
          refine r_u (o_ld 4 sc22 rfl rfl rfl) ?_
          refine r_u (o_bld [vI 0, vS r14.1.Value, vW r14.1.Version] rfl (fun _ => by kernel_rfl)) ?_
          refine rl_st (fun _ h => mv7 h) ?_
          refine r_u0 (o_stn ag41 rfl rfl rfl rfl rfl rfl rfl) ?_
          refine r_nil ?_
          refine x_seq ?_
          refine c_ret ?_
          refine ex_st (fun _ h => mv7 (mv7 h)) ?_
          refine ex_st (fun _ h => st_some (f := table_Table.op g2) (a := x9) (st_star_f (A := table_Table.fl b10 x9 g2) h)) ?_
          refine ex_st (fun _ h => mv4 (mv4 (mv4 h))) ?_
          refine ex_st (fun _ h => st_some (f := policy_Policy.op (⟨(pv46, g47), (pv49, g50)⟩ : policy_Policy.G)) (a := r43.2) (st_star_f (A := policy_Policy.fl b34 r43.2 (⟨(pv46, g47), (pv49, g50)⟩ : policy_Policy.G)) h)) ?_
          refine ex_st (fun _ h => mv1 h) ?_
          refine ex_st (fun _ h => st_back ho11 h) ?_
          obtain rfl := Option.some.inj hm51
          exact x_d1 rfl (rv_n 2 [vI 0, vS r14.1.Value, vW r14.1.Version] ag41 rfl rfl rfl rfl) (fun _ h => st_pk 7 [3, 0, 1, 6] (by decide) h) (Le.refl _) ⟨_, rfl, (⟨(pt b10 0, g2), (pt b34 0, (⟨(pv46, g47), (pv49, g50)⟩ : policy_Policy.G)), g6⟩ : store_Store.G), rfl, rfl, rfl⟩
    · have hm18 := iff_ hm15 h17
      clear hm15
      refine c_seq ?_
      refine c_reg ?_
      refine r_u (o_bin rfl rfl (bI_eq a1.Kind 3)) ?_
      refine r_u (o_as rfl) ?_
      refine r_nil ?_
      refine x_seq ?_
      refine c_if (b := (a1.Kind == 3)) rfl (fun h52 => ?_) fun h52 => ?_
      · have hm53 := ift hm18 h52
        clear hm18
        refine c_seq ?_
        refine c_seq ?_
        refine c_reg ?_
        refine r_u (o_mv rfl) ?_
        refine r_u (o_not rfl) ?_
        refine r_nil ?_
        refine x_seq ?_
        refine c_if (b := !r14.2) rfl (fun h54 => ?_) fun h54 => ?_
        · have hm55 := ift hm53 h54
          clear hm53
          refine c_seq ?_
          refine c_reg ?_
          refine r_u (o_bld [vI 2, vS [], vW 0] rfl (fun _ => by kernel_rfl)) ?_
          refine rl_st (fun _ h => mv3 h) ?_
          refine r_u0 (o_stn ag41 rfl rfl rfl rfl rfl rfl rfl) ?_
          refine r_nil ?_
          refine x_seq ?_
          refine c_ret ?_
          refine ex_st (fun _ h => mv3 (mv3 h)) ?_
          refine ex_st (fun _ h => st_some (f := table_Table.op g2) (a := x9) (st_star_f (A := table_Table.fl b10 x9 g2) h)) ?_
          refine ex_st (fun _ h => st_back ho11 h) ?_
          obtain rfl := Option.some.inj hm55
          exact x_d1 rfl (rv_n 1 [vI 2, vS [], vW 0] ag41 rfl rfl rfl rfl) (fun _ h => st_pk 7 [4, 0, 5, 6] (by decide) h) (Le.refl _) ⟨_, rfl, (⟨(pt b10 0, g2), (pv4, g5), g6⟩ : store_Store.G), rfl, rfl, rfl⟩
        · have hm55 := iff_ hm53 h54
          clear hm53
          refine c_skip ?_
          refine x_seq ?_
          refine c_seq ?_
          obtain ⟨r56, hr56, hm57⟩ := ltx hm55
          clear hm55
          refine c_any mixed (effs := [6]) (V := []) ?_
          refine stage_st (fun _ h => mv2 (mv2 h)) ?_
          refine stage_ext [(0, pt b0_ 0), (1, pt b0_ 0), (2, pt b0_ 4), (3, pt b10 0), (4, pt b7 1), (5, vS a1.Key)] rfl ?_
          refine stage rfl rfl rfl rfl [0, 1, 3, 7, 0, 16, 63] [0, 1, 2, 3, 4, 5] [6] rfl rfl rfl (qc rfl rfl (s_u (o_mv rfl)) (qc rfl rfl (s_u (o_nc rfl)) (qc rfl rfl (s_u (o_fa fa96_1 rfl)) (qc rfl rfl (s_u (o_ld 5 sc92 rfl rfl rfl)) (qc rfl rfl (s_u (o_fa fa27_1 rfl)) (qc rfl rfl (s_u (o_ld 4 sc9 rfl rfl rfl)) qn)))))) ?_ (fun h => absurd h (by decide))
          refine ec (eo_c rfl (s_w (o_call ca36 rfl (table_Table_Drop.ok b10 x9 g2 a1.Key r56 hr56))) ?_) en
          refine stage rfl rfl rfl rfl [0, 1, 3, 7, 0, 16, 63] [] [] rfl rfl rfl qn en ?_
          intro _
          refine ex_sub (E' := [(0, pt b0_ 0), (3, pt b7 0), (4, pt b8 0), (5, pt b16 0)]) ⟨rfl, rfl, rfl, rfl, trivial⟩ ?_
          refine x_seq ?_
          refine c_seq ?_
          refine cd_st (fun _ h => mv6 h) ?_
          refine cd_opt (fun ho60 => ?_) (fun x58 b59 ho60 => ?_)
          · rintro rfl
            have hm61 := om_n hm57 ho60
            clear hm57
            cases hm61
          · rintro rfl
            have hm61 := om_s hm57 ho60
            clear hm57
            obtain ⟨⟨pv63, g64⟩, ⟨pv66, g67⟩⟩ := g5
            refine cd_st (fun _ h => st_star_o h) ?_
            obtain ⟨r68, hr68, hm76⟩ := bs hm61
            clear hm61
            refine c_any mixed (effs := [6]) (V := []) ?_
            refine stage_ext [(0, pt b0_ 0), (1, pt b0_ 0), (2, pt b0_ 5), (3, pt b59 0), (4, pt b7 1), (5, vS a1.Key)] rfl ?_
            refine stage rfl rfl rfl rfl [0, 1, 3, 7, 0, 16, 63] [0, 1, 2, 3, 4, 5] [6] rfl rfl rfl (qc rfl rfl (s_u (o_mv rfl)) (qc rfl rfl (s_u (o_nc rfl)) (qc rfl rfl (s_u (o_fa fa96_2 rfl)) (qc rfl rfl (s_u (o_ld 8 sc93 rfl rfl rfl)) (qc rfl rfl (s_u (o_fa fa27_1 rfl)) (qc rfl rfl (s_u (o_ld 7 sc9 rfl rfl rfl)) qn)))))) ?_ (fun h => absurd h (by decide))
            refine ec (eo_w rfl (s_w (o_call ca37 rfl (policy_Policy_Remove.ok b59 x58 (⟨(pv63, g64), (pv66, g67)⟩ : policy_Policy.G) a1.Key r68 hr68))) ?_) en
            rintro _ R _ _ ⟨⟨⟨pv71, g72⟩, ⟨pv74, g75⟩⟩, rfl, rfl, rfl⟩
            refine stage rfl rfl rfl rfl [0, 1, 3, 7, 0, 16, 63] [] [] rfl rfl rfl qn en ?_
            intro _
            refine ex_sub (E' := [(4, pt b8 0), (5, pt b16 0)]) ⟨rfl, rfl, trivial⟩ ?_
            refine x_seq ?_
            refine c_seq ?_
            refine c_reg ?_
            refine r_u (o_fa fa50_2 rfl) ?_
            refine r_u (o_ld 5 sc22 rfl rfl rfl) ?_
            refine r_u (o_bld [vI 0, vS [], vW r14.1.Version] rfl (fun _ => by kernel_rfl)) ?_
            refine rl_st (fun _ h => mv6 h) ?_
            refine r_u0 (o_stn ag41 rfl rfl rfl rfl rfl rfl rfl) ?_
            refine r_nil ?_
            refine x_seq ?_
            refine c_ret ?_
            refine ex_st (fun _ h => mv5 (mv5 h)) ?_
            refine ex_st (fun _ h => st_some (f := table_Table.op g2) (a := r56.2) (st_star_f (A := table_Table.fl b10 r56.2 g2) h)) ?_
            refine ex_st (fun _ h => mv4 (mv4 (mv4 h))) ?_
            refine ex_st (fun _ h => st_some (f := policy_Policy.op (⟨(pv71, g72), (pv74, g75)⟩ : policy_Policy.G)) (a := r68.2) (st_star_f (A := policy_Policy.fl b59 r68.2 (⟨(pv71, g72), (pv74, g75)⟩ : policy_Policy.G)) h)) ?_
            obtain rfl := Option.some.inj hm76
            exact x_d1 rfl (rv_n 2 [vI 0, vS [], vW r14.1.Version] ag41 rfl rfl rfl rfl) (fun _ h => st_pk 7 [5, 1, 0, 6] (by decide) h) (Le.refl _) ⟨_, rfl, (⟨(pt b10 0, g2), (pt b59 0, (⟨(pv71, g72), (pv74, g75)⟩ : policy_Policy.G)), g6⟩ : store_Store.G), rfl, rfl, rfl⟩
      · have hm53 := iff_ hm18 h52
        clear hm18
        refine c_seq ?_
        refine c_reg ?_
        refine r_u (o_bin rfl rfl (bI_eq a1.Kind 4)) ?_
        refine r_u (o_as rfl) ?_
        refine r_nil ?_
        refine x_seq ?_
        refine c_if (b := (a1.Kind == 4)) rfl (fun h77 => ?_) fun h77 => ?_
        · have hm78 := ift hm53 h77
          clear hm53
          refine c_seq ?_
          refine c_seq ?_
          refine c_reg ?_
          refine r_u (o_mv rfl) ?_
          refine r_u (o_not rfl) ?_
          refine r_nil ?_
          refine x_seq ?_
          refine c_if (b := !r14.2) rfl (fun h79 => ?_) fun h79 => ?_
          · have hm80 := ift hm78 h79
            clear hm78
            refine c_seq ?_
            refine c_reg ?_
            refine r_u (o_bld [vI 2, vS [], vW 0] rfl (fun _ => by kernel_rfl)) ?_
            refine rl_st (fun _ h => mv3 h) ?_
            refine r_u0 (o_stn ag41 rfl rfl rfl rfl rfl rfl rfl) ?_
            refine r_nil ?_
            refine x_seq ?_
            refine c_ret ?_
            refine ex_st (fun _ h => mv3 (mv3 h)) ?_
            refine ex_st (fun _ h => st_some (f := table_Table.op g2) (a := x9) (st_star_f (A := table_Table.fl b10 x9 g2) h)) ?_
            refine ex_st (fun _ h => st_back ho11 h) ?_
            obtain rfl := Option.some.inj hm80
            exact x_d1 rfl (rv_n 1 [vI 2, vS [], vW 0] ag41 rfl rfl rfl rfl) (fun _ h => st_pk 7 [4, 0, 5, 6] (by decide) h) (Le.refl _) ⟨_, rfl, (⟨(pt b10 0, g2), (pv4, g5), g6⟩ : store_Store.G), rfl, rfl, rfl⟩
          · have hm80 := iff_ hm78 h79
            clear hm78
            refine c_skip ?_
            refine x_seq ?_
            refine c_seq ?_
            refine c_reg ?_
            refine r_u (o_fa fa50_2 rfl) ?_
            refine r_u (o_ld 0 sc22 rfl rfl rfl) ?_
            refine r_u (o_fa fa27_4 rfl) ?_
            refine r_u (o_ld 4 sc22 rfl rfl rfl) ?_
            refine r_u (o_bin rfl rfl (bW_ne r14.1.Version a1.Version)) ?_
            refine r_nil ?_
            refine x_seq ?_
            refine c_if (b := (r14.1.Version != a1.Version)) rfl (fun h81 => ?_) fun h81 => ?_
            · have hm82 := ift hm80 h81
              clear hm80
              refine c_seq ?_
              refine c_reg ?_
              refine r_u (o_fa fa50_2 rfl) ?_
              refine r_u (o_ld 0 sc22 rfl rfl rfl) ?_
              refine r_u (o_bld [vI 121, vS [], vW r14.1.Version] rfl (fun _ => by kernel_rfl)) ?_
              refine rl_st (fun _ h => mv3 h) ?_
              refine r_u0 (o_stn ag41 rfl rfl rfl rfl rfl rfl rfl) ?_
              refine r_nil ?_
              refine x_seq ?_
              refine c_ret ?_
              refine ex_st (fun _ h => mv3 (mv3 h)) ?_
              refine ex_st (fun _ h => st_some (f := table_Table.op g2) (a := x9) (st_star_f (A := table_Table.fl b10 x9 g2) h)) ?_
              refine ex_st (fun _ h => st_back ho11 h) ?_
              obtain rfl := Option.some.inj hm82
              exact x_d1 rfl (rv_n 1 [vI 121, vS [], vW r14.1.Version] ag41 rfl rfl rfl rfl) (fun _ h => st_pk 7 [4, 0, 5, 6] (by decide) h) (Le.refl _) ⟨_, rfl, (⟨(pt b10 0, g2), (pv4, g5), g6⟩ : store_Store.G), rfl, rfl, rfl⟩
            · have hm82 := iff_ hm80 h81
              clear hm80
              refine c_skip ?_
              refine x_blk ?_
              refine x_seq ?_
              refine c_seq ?_
              refine c_reg ?_
              refine r_u (o_mv rfl) ?_
              refine r_u (o_ldn 4 (api_Op.c a1) ag27 rfl rfl rfl rfl) ?_
              refine rl_st (fun _ h => mv2 (mv2 h)) ?_
              refine rl_st (fun _ h => st_some (f := table_Table.op g2) (a := x9) (st_star_f (A := table_Table.fl b10 x9 g2) h)) ?_
              obtain ⟨r83, hr83, hm92⟩ := bs hm82
              clear hm82
              refine rl_st (fun _ h => mv6 (mv2 (mv6 (mv6 h)))) ?_
              refine r_sw (s_w (o_call ca72 rfl (store_Store_put.ok b0_ (⟨a0.c, (some x9), a0.p, a0.sessions, a0.seq, a0.now, a0.version, a0.tally⟩ : store_Store) (⟨(pt b10 0, g2), (pv4, g5), g6⟩ : store_Store.G) a1 r83 hr83))) ?_
              rintro _ R _ _ ⟨⟨⟨pv86, g87⟩, ⟨pv89, g90⟩, g91⟩, rfl, rfl, rfl⟩
              refine rl_st (fun _ h => mv5 h) ?_
              refine r_u0 (o_stn ag41 rfl rfl rfl rfl rfl rfl rfl) ?_
              refine r_nil ?_
              refine x_seq ?_
              refine c_ret ?_
              obtain rfl := Option.some.inj hm92
              exact x_d1 rfl (rv_n 0 (api_Reply.c r83.1) ag41 rfl rfl rfl rfl) (fun _ h => st_pk 7 [1, 2, 3, 4] (by decide) h) (Le.refl _) ⟨_, rfl, (⟨(pv86, g87), (pv89, g90), g91⟩ : store_Store.G), rfl, rfl, rfl⟩
        · have hm78 := iff_ hm53 h77
          clear hm53
          refine c_skip ?_
          refine x_blk ?_
          refine x_seq ?_
          refine c_seq ?_
          refine c_reg ?_
          refine r_u (o_mv rfl) ?_
          refine r_u (o_ldn 4 (api_Op.c a1) ag27 rfl rfl rfl rfl) ?_
          refine rl_st (fun _ h => mv2 (mv2 h)) ?_
          refine rl_st (fun _ h => st_some (f := table_Table.op g2) (a := x9) (st_star_f (A := table_Table.fl b10 x9 g2) h)) ?_
          obtain ⟨r93, hr93, hm102⟩ := bs hm78
          clear hm78
          refine rl_st (fun _ h => mv6 (mv2 (mv6 (mv6 h)))) ?_
          refine r_sw (s_w (o_call ca72 rfl (store_Store_put.ok b0_ (⟨a0.c, (some x9), a0.p, a0.sessions, a0.seq, a0.now, a0.version, a0.tally⟩ : store_Store) (⟨(pt b10 0, g2), (pv4, g5), g6⟩ : store_Store.G) a1 r93 hr93))) ?_
          rintro _ R _ _ ⟨⟨⟨pv96, g97⟩, ⟨pv99, g100⟩, g101⟩, rfl, rfl, rfl⟩
          refine rl_st (fun _ h => mv5 h) ?_
          refine r_u0 (o_stn ag41 rfl rfl rfl rfl rfl rfl rfl) ?_
          refine r_nil ?_
          refine x_seq ?_
          refine c_ret ?_
          obtain rfl := Option.some.inj hm102
          exact x_d1 rfl (rv_n 0 (api_Reply.c r93.1) ag41 rfl rfl rfl rfl) (fun _ h => st_pk 7 [1, 2, 3, 4] (by decide) h) (Le.refl _) ⟨_, rfl, (⟨(pv96, g97), (pv99, g100), g101⟩ : store_Store.G), rfl, rfl, rfl⟩

def store_Store_Apply_l0 (r18 : List Str) : Nat → Int → Int → (Option policy_Policy) → (List (Str × api_Entry)) → Option (Int × Option policy_Policy × (List (Str × api_Entry)))
  | 0, _, _, _, _ => none
  | k55 + 1, s_48, c_49, c_50, c_51 => if decide (s_48 < (r18.length : Int)) then (gi r18 s_48).bind fun x60 => lt (table_Table_Drop (⟨c_51, c_49⟩ : table_Table) x60) fun r62 => om c_50 (none) fun x64 => (policy_Policy_Remove x64 x60).bind fun r74 => store_Store_Apply_l0 r18 k55 (i64 (s_48 + 1)) r62.2.bytes (some r74.2) r62.2.m else some (c_49, c_50, c_51)
def store_Store_Apply (a0 : store_Store) (a1 : api_Record) : Option (api_Reply × Int × store_Store) :=
  if !(op_Check a1.Op) then some ((⟨0, [], 0⟩ : api_Reply), 1, a0) else if ((a1.Seq == 0) || ((a1.Seq - 1) != a0.seq)) then some ((⟨0, [], 0⟩ : api_Reply), 123, a0) else om a0.t (none) fun x13 => (table_Table_Ended x13 (if a0.now < a1.Now then a1.Now else a0.now)).bind fun r18 => Option.bind (store_Store_Apply_l0 r18 (((r18.length : Int) - 0).toNat + 1) 0 x13.bytes a0.p x13.m) fun p21 => if (a1.Op.Kind == 5) then some ((⟨0, [], 0⟩ : api_Reply), 0, (⟨a0.c, (some (⟨p21.2.2, p21.1⟩ : table_Table)), p21.2.1, a0.sessions, a0.seq + 1, (if a0.now < a1.Now then a1.Now else a0.now), a0.version, a0.tally⟩ : store_Store)) else if ((mget a0.sessions a1.Session).isSome && (a1.Num == (((mget a0.sessions a1.Session).getD ((⟨0, (⟨0, [], 0⟩ : api_Reply)⟩ : store_last) : store_last)).num))) then some ((((mget a0.sessions a1.Session).getD ((⟨0, (⟨0, [], 0⟩ : api_Reply)⟩ : store_last) : store_last)).reply), 0, (⟨a0.c, (some (⟨p21.2.2, p21.1⟩ : table_Table)), p21.2.1, a0.sessions, a0.seq + 1, (if a0.now < a1.Now then a1.Now else a0.now), a0.version, a0.tally⟩ : store_Store)) else if ((mget a0.sessions a1.Session).isSome && decide (a1.Num < (((mget a0.sessions a1.Session).getD ((⟨0, (⟨0, [], 0⟩ : api_Reply)⟩ : store_last) : store_last)).num))) then some ((⟨122, [], 0⟩ : api_Reply), 0, (⟨a0.c, (some (⟨p21.2.2, p21.1⟩ : table_Table)), p21.2.1, a0.sessions, a0.seq + 1, (if a0.now < a1.Now then a1.Now else a0.now), a0.version, a0.tally⟩ : store_Store)) else if (!((mget a0.sessions a1.Session).isSome) && decide (64 ≤ (a0.sessions.length : Int))) then some ((⟨3, [], 0⟩ : api_Reply), 0, (⟨a0.c, (some (⟨p21.2.2, p21.1⟩ : table_Table)), p21.2.1, a0.sessions, a0.seq + 1, (if a0.now < a1.Now then a1.Now else a0.now), a0.version, a0.tally⟩ : store_Store)) else (store_Store_do (⟨a0.c, (some (⟨p21.2.2, p21.1⟩ : table_Table)), p21.2.1, a0.sessions, a0.seq + 1, (if a0.now < a1.Now then a1.Now else a0.now), a0.version, a0.tally⟩ : store_Store) a1.Op).bind fun r37 => some (r37.1, 0, (⟨r37.2.c, r37.2.t, r37.2.p, mput r37.2.sessions a1.Session (⟨a1.Num, r37.1⟩ : store_last), r37.2.seq, r37.2.now, r37.2.version, r37.2.tally⟩ : store_Store))
theorem store_Store_Apply.ok {G R F} (b0_ : Nat) (a0 : store_Store) (g0_ : store_Store.G) (a1 : api_Record) (r : api_Reply × Int × store_Store) (hm : store_Store_Apply a0 a1 = some r) : CO Tryz.prog 15 [pt b0_ 0, .agg (api_Record.c a1).toArray] G R (Bk b0_ 96 [vI a0.c.Policy, vI a0.c.Entries, vI a0.c.Bytes, vW a0.c.Seed, g0_.t.1, g0_.p.1, g0_.sessions, vW a0.seq, vW a0.now, vW a0.version, vI a0.tally.Asked, vI a0.tally.Hits] :: rO (table_Table.op g0_.t.2) g0_.t.1 a0.t :: rO (policy_Policy.op g0_.p.2) g0_.p.1 a0.p :: OwM vW store_last.v g0_.sessions a0.sessions :: F)
    (Ret fun u R' L' => ∃ (q0 : store_Store.G), u = .tuple #[.agg (api_Reply.c r.1).toArray, vI r.2.1] ∧ R' = R ∧ L' = Bk b0_ 96 [vI r.2.2.c.Policy, vI r.2.2.c.Entries, vI r.2.2.c.Bytes, vW r.2.2.c.Seed, q0.t.1, q0.p.1, q0.sessions, vW r.2.2.seq, vW r.2.2.now, vW r.2.2.version, vI r.2.2.tally.Asked, vI r.2.2.tally.Hits] :: rO (table_Table.op q0.t.2) q0.t.1 r.2.2.t :: rO (policy_Policy.op q0.p.2) q0.p.1 r.2.2.p :: OwM vW store_last.v q0.sessions r.2.2.sessions :: F) := by
  obtain ⟨⟨pv1, g2⟩, ⟨pv4, g5⟩, g6⟩ := g0_
  unfold store_Store_Apply at hm
  refine co_ofN (N := 143) Tryz.func15 rfl rfl ?_
  refine c_seq ?_
  refine c_reg ?_
  refine r_new (o_bx (api_Record.c a1) rfl rfl) fun b7 => ?_
  refine r_new (o_al ze41) fun b8 => ?_
  refine r_u (o_as rfl) ?_
  refine r_nil ?_
  refine x_seq ?_
  refine c_seq ?_
  refine c_blk ?_
  refine c_seq ?_
  refine c_reg ?_
  refine r_u (o_mv rfl) ?_
  refine r_u (o_bin rfl rfl (bP_eqp Tryz.underlying30)) ?_
  refine r_u (o_mv rfl) ?_
  refine r_s (s_y rfl rfl rfl (o_fa fa35_4 rfl)) ?_
  refine r_s (s_y rfl rfl rfl (o_ldn 1 (api_Op.c a1.Op) ag27 rfl rfl rfl rfl)) ?_
  refine r_s (s_y rfl rfl rfl (o_callq ca34 rfl (op_Check.ok a1.Op _ rfl))) ?_
  refine r_s (s_y rfl rfl rfl (o_not rfl)) ?_
  refine r_u (o_pf rfl rfl rfl) ?_
  refine r_u (o_as rfl) ?_
  refine r_nil ?_
  refine x_seq ?_
  refine c_if (b := !(op_Check a1.Op)) rfl (fun h9 => ?_) fun h9 => ?_
  · have hm10 := ift hm h9
    clear hm
    refine c_seq ?_
    refine c_reg ?_
    refine r_u (o_bld [vI 0, vS [], vW 0] rfl (fun _ => by kernel_rfl)) ?_
    refine r_u0 (o_stn ag41 rfl rfl rfl rfl rfl rfl rfl) ?_
    refine r_u (o_as rfl) ?_
    refine r_nil ?_
    refine x_seq ?_
    refine c_ret ?_
    obtain rfl := Option.some.inj hm10
    exact x_d2 rfl (rv_n 0 [vI 0, vS [], vW 0] ag41 rfl rfl rfl rfl) (rv_t rfl) (fun _ h => st_pk 6 [2, 3, 4, 5] (by decide) h) (Le.refl _) ⟨_, rfl, (⟨(pv1, g2), (pv4, g5), g6⟩ : store_Store.G), rfl, rfl, rfl⟩
  · have hm10 := iff_ hm h9
    clear hm
    refine c_seq ?_
    refine c_any mixed (effs := []) (V := []) ?_
    refine stage_ext [(0, pt b7 0), (1, vW a1.Seq), (2, vB (a1.Seq == 0)), (3, vB (a1.Seq == 0)), (4, gv (!(a1.Seq == 0)) (pt b7 0)), (5, gv (!(a1.Seq == 0)) (vW a1.Seq)), (6, gv (!(a1.Seq == 0)) (vW (a1.Seq - 1))), (7, gv (!(a1.Seq == 0)) (pt b0_ 0)), (8, gv (!(a1.Seq == 0)) (pt b0_ 0)), (9, gv (!(a1.Seq == 0)) (pt b0_ 7)), (10, gv (!(a1.Seq == 0)) (vW a0.seq)), (11, gv (!(a1.Seq == 0)) (vB ((a1.Seq - 1) != a0.seq))), (12, vB ((a1.Seq == 0) || ((a1.Seq - 1) != a0.seq))), (13, vB ((a1.Seq == 0) || ((a1.Seq - 1) != a0.seq)))] rfl ?_
    refine stage rfl rfl rfl rfl [0, 1, 3, 7, 15, 31, 63, 15, 143, 399, 911, 2047, 4095, 8191] [0, 1, 2, 3, 4, 5, 6, 7, 8, 9, 10, 11, 12, 13] [] rfl rfl rfl (qc rfl rfl (s_u (o_fa fa35_0 rfl)) (qc rfl rfl (s_u (o_ld 1 sc22 rfl rfl rfl)) (qc rfl rfl (s_u (o_bin rfl rfl (bW_eq a1.Seq 0))) (qc rfl rfl (s_u (o_mv rfl)) (qc rfl rfl (s_gf rfl rfl fun g => o_fa fa35_0 rfl) (qc rfl rfl (s_gf rfl rfl fun g => o_ld 1 sc22 (evg rfl g) rfl rfl) (qc rfl rfl (s_gf rfl rfl fun g => o_bin (evg rfl g) rfl (bW_sub a1.Seq 1)) (qc rfl rfl (s_gf rfl rfl fun g => o_mv rfl) (qc rfl rfl (s_gf rfl rfl fun g => o_nc (evg rfl g)) (qc rfl rfl (s_gf rfl rfl fun g => o_fa fa96_4 (evg rfl g)) (qc rfl rfl (s_gf rfl rfl fun g => o_ld 2 sc22 (evg rfl g) rfl rfl) (qc rfl rfl (s_gf rfl rfl fun g => o_bin (evg rfl g) (evg rfl g) (bW_ne (a1.Seq - 1) a0.seq)) (qc rfl rfl (s_u (o_or rfl rfl)) (qc rfl rfl (s_u (o_as rfl)) qn)))))))))))))) en ?_
    intro _
    refine ex_sub (E' := [(0, pt b0_ 0), (3, pt b7 0), (4, pt b8 0), (21, vB ((a1.Seq == 0) || ((a1.Seq - 1) != a0.seq)))]) ⟨rfl, rfl, rfl, rfl, trivial⟩ ?_
    refine x_seq ?_
    refine c_if (b := ((a1.Seq == 0) || ((a1.Seq - 1) != a0.seq))) rfl (fun h11 => ?_) fun h11 => ?_
    · have hm12 := ift hm10 h11
      clear hm10
      refine c_seq ?_
      refine c_reg ?_
      refine r_u (o_bld [vI 0, vS [], vW 0] rfl (fun _ => by kernel_rfl)) ?_
      refine r_u0 (o_stn ag41 rfl rfl rfl rfl rfl rfl rfl) ?_
      refine r_u (o_as rfl) ?_
      refine r_nil ?_
      refine x_seq ?_
      refine c_ret ?_
      obtain rfl := Option.some.inj hm12
      exact x_d2 rfl (rv_n 0 [vI 0, vS [], vW 0] ag41 rfl rfl rfl rfl) (rv_t rfl) (fun _ h => st_pk 6 [2, 3, 4, 5] (by decide) h) (Le.refl _) ⟨_, rfl, (⟨(pv1, g2), (pv4, g5), g6⟩ : store_Store.G), rfl, rfl, rfl⟩
    · have hm12 := iff_ hm10 h11
      clear hm10
      refine c_skip ?_
      refine x_blk ?_
      refine x_seq ?_
      refine c_seq ?_
      refine c_reg ?_
      refine r_u (o_mv rfl) ?_
      refine r_u (o_nc rfl) ?_
      refine r_u (o_fa fa96_4 rfl) ?_
      refine r_u (o_ld 2 sc22 rfl rfl rfl) ?_
      refine r_u (o_bin rfl rfl (bW_add a0.seq 1)) ?_
      refine r_u (o_nc rfl) ?_
      refine r_u (o_fa fa96_4 rfl) ?_
      refine rl_st (fun _ h => mv2 h) ?_
      refine r_u0 (o_st sc22 rfl rfl rfl rfl rfl rfl) ?_
      refine r_nil ?_
      refine x_seq ?_
      refine c_seq ?_
      refine c_any mixed (effs := [10]) (V := []) ?_
      refine stage_ext [(0, pt b0_ 0), (1, pt b0_ 0), (2, pt b0_ 0), (3, pt b0_ 8), (4, vW a0.now), (5, pt b7 1), (6, vW a1.Now), (7, vW (if a0.now < a1.Now then a1.Now else a0.now)), (8, pt b0_ 0), (9, pt b0_ 8)] rfl ?_
      refine stage rfl rfl rfl rfl [0, 0, 2, 6, 14, 0, 32, 126, 255, 511, 1023] [0, 1, 2, 3, 4, 5, 6, 7, 8, 9] [10] rfl rfl rfl (qc rfl rfl (s_u (o_mv rfl)) (qc rfl rfl (s_u (o_mv rfl)) (qc rfl rfl (s_u (o_nc rfl)) (qc rfl rfl (s_u (o_fa fa96_5 rfl)) (qc rfl rfl (s_u (o_ld 0 sc22 rfl rfl rfl)) (qc rfl rfl (s_u (o_fa fa35_1 rfl)) (qc rfl rfl (s_u (o_ld 2 sc22 rfl rfl rfl)) (qc rfl rfl (s_u (o_maxW rfl rfl)) (qc rfl rfl (s_u (o_nc rfl)) (qc rfl rfl (s_u (o_fa fa96_5 rfl)) qn)))))))))) ?_ (fun h => absurd h (by decide))
      refine ec (eo_u rfl (s_u (o_st sc22 rfl rfl rfl rfl rfl rfl)) (Le.refl _) ?_) en
      refine stage rfl rfl rfl rfl [0, 0, 2, 6, 14, 0, 32, 126, 255, 511, 1023] [] [] rfl rfl rfl qn en ?_
      intro _
      refine ex_sub (E' := [(0, pt b0_ 0), (3, pt b7 0), (4, pt b8 0)]) ⟨rfl, rfl, rfl, trivial⟩ ?_
      refine x_seq ?_
      refine c_seq ?_
      refine c_seq ?_
      refine cd_st (fun _ h => mv3 h) ?_
      refine cd_opt (fun ho15 => ?_) (fun x13 b14 ho15 => ?_)
      · rintro rfl
        have hm16 := om_n hm12 ho15
        clear hm12
        cases hm16
      · rintro rfl
        have hm16 := om_s hm12 ho15
        clear hm12
        refine cd_st (fun _ h => st_star_o h) ?_
        obtain ⟨r18, hr18, hm20⟩ := bs hm16
        clear hm16
        refine c_any mixed (effs := [8]) (V := []) ?_
        refine stage_ext [(0, pt b0_ 0), (1, pt b0_ 0), (2, pt b0_ 4), (3, pt b14 0), (4, pt b0_ 0), (5, pt b0_ 0), (6, pt b0_ 8), (7, vW (if a0.now < a1.Now then a1.Now else a0.now)), (10, vI 0)] rfl ?_
        refine stage rfl rfl rfl rfl [0, 1, 3, 7, 0, 16, 48, 112, 255, 511, 0] [0, 1, 2, 3, 4, 5, 6, 7, 10] [8] rfl rfl rfl (qc rfl rfl (s_u (o_mv rfl)) (qc rfl rfl (s_u (o_nc rfl)) (qc rfl rfl (s_u (o_fa fa96_1 rfl)) (qc rfl rfl (s_u (o_ld 2 sc92 rfl rfl rfl)) (qc rfl rfl (s_u (o_mv rfl)) (qc rfl rfl (s_u (o_nc rfl)) (qc rfl rfl (s_u (o_fa fa96_5 rfl)) (qc rfl rfl (s_u (o_ld 2 sc22 rfl rfl rfl)) (qc rfl rfl (s_u (o_mv rfl)) qn))))))))) ?_ (fun h => absurd h (by decide))
        refine ec (eo_w rfl (s_w (o_call ca35 rfl (table_Table_Ended.ok b14 x13 g2 (if a0.now < a1.Now then a1.Now else a0.now) r18 hr18))) ?_) en
        rintro v19 R _ _ ⟨_, rfl, rfl, rfl⟩
        refine stage_ext [(9, vI (r18.length : Int))] rfl ?_
        refine stage rfl rfl rfl rfl [0, 1, 3, 7, 0, 16, 48, 112, 255, 511, 0] [9, 10] [] rfl rfl rfl (qc rfl rfl (s_u (o_lenO 0 Tryz.underlying98 rfl rfl)) (qc rfl rfl (s_u (o_mv rfl)) qn)) en ?_
        intro _
        refine ex_sub (E' := [(0, pt b0_ 0), (3, pt b7 0), (4, pt b8 0), (61, v19), (62, vI (r18.length : Int)), (63, vI 0)]) ⟨rfl, rfl, rfl, rfl, rfl, rfl, trivial⟩ ?_
        refine x_seq ?_
        obtain ⟨p21, hp25, hm26⟩ := bs hm20
        refine cd_cut (fun x ks => ∀ (pv22 : Value × policy_Policy.G), EX x .normal ks [(0, pt b0_ 0), (3, pt b7 0), (4, pt b8 0)] R (Bk b14 138 [g2.m, vI p21.1] :: Bk b0_ 96 [vI a0.c.Policy, vI a0.c.Entries, vI a0.c.Bytes, vW a0.c.Seed, pt b14 0, pv22.1, g6, vW (a0.seq + 1), vW (if a0.now < a1.Now then a1.Now else a0.now), vW a0.version, vI a0.tally.Asked, vI a0.tally.Hits] :: Bk b8 41 [vI 0, vS [], vW 0] :: Bk b7 35 (api_Record.c a1) :: OwS true 9 1 eS v19 r18 :: OwM vS api_Entry.v g2.m p21.2.2 :: OwM vW store_last.v g6 a0.sessions :: rO (policy_Policy.op pv22.2) pv22.1 p21.2.1 :: F)) ?_ fun K27 => ?_
        · intro pv22
          obtain ⟨pv23, g24⟩ := pv22
          refine x_seq ?_
          refine c_seq ?_
          refine c_seq ?_
          refine c_reg ?_
          refine r_u (o_fa fa35_4 rfl) ?_
          refine r_u (o_fa fa27_0 rfl) ?_
          refine r_u (o_ld 3 sc3 rfl rfl rfl) ?_
          refine r_u (o_bin rfl rfl (bI_eq a1.Op.Kind 5)) ?_
          refine r_nil ?_
          refine x_seq ?_
          refine c_if (b := (a1.Op.Kind == 5)) rfl (fun h28 => ?_) fun h28 => ?_
          · have hm29 := ift hm26 h28
            clear hm26
            refine c_seq ?_
            refine c_reg ?_
            refine r_u (o_bld [vI 0, vS [], vW 0] rfl (fun _ => by kernel_rfl)) ?_
            refine rl_st (fun _ h => mv2 h) ?_
            refine r_u0 (o_stn ag41 rfl rfl rfl rfl rfl rfl rfl) ?_
            refine r_u (o_as rfl) ?_
            refine r_nil ?_
            refine x_seq ?_
            refine c_ret ?_
            refine ex_st (fun _ h => mv2 (mv5 h)) ?_
            refine ex_st (fun _ h => st_some (f := table_Table.op g2) (a := (⟨p21.2.2, p21.1⟩ : table_Table)) (st_star_f (A := table_Table.fl b14 (⟨p21.2.2, p21.1⟩ : table_Table) g2) h)) ?_
            obtain rfl := Option.some.inj hm29
            exact x_d2 rfl (rv_n 1 [vI 0, vS [], vW 0] ag41 rfl rfl rfl rfl) (rv_t rfl) (fun _ h => st_pk 7 [2, 0, 6, 5] (by decide) h) (Le.refl _) ⟨_, rfl, (⟨(pt b14 0, g2), (pv23, g24), g6⟩ : store_Store.G), rfl, rfl, rfl⟩
          · have hm29 := iff_ hm26 h28
            clear hm26
            refine c_skip ?_
            refine x_seq ?_
            refine c_seq ?_
            refine c_any mixed (effs := [10, 11]) (V := []) ?_
            refine stage_ext [(0, pt b0_ 0), (1, pt b0_ 0), (2, pt b0_ 6), (3, g6), (4, pt b7 2), (5, vW a1.Session), (6, .tuple #[.agg [vW (((mget a0.sessions a1.Session).getD ((⟨0, (⟨0, [], 0⟩ : api_Reply)⟩ : store_last) : store_last)).num), vI ((((mget a0.sessions a1.Session).getD ((⟨0, (⟨0, [], 0⟩ : api_Reply)⟩ : store_last) : store_last)).reply).E), vS ((((mget a0.sessions a1.Session).getD ((⟨0, (⟨0, [], 0⟩ : api_Reply)⟩ : store_last) : store_last)).reply).Value), vW ((((mget a0.sessions a1.Session).getD ((⟨0, (⟨0, [], 0⟩ : api_Reply)⟩ : store_last) : store_last)).reply).Version)].toArray, vB ((mget a0.sessions a1.Session).isSome)]), (7, .tuple #[.agg [vW (((mget a0.sessions a1.Session).getD ((⟨0, (⟨0, [], 0⟩ : api_Reply)⟩ : store_last) : store_last)).num), vI ((((mget a0.sessions a1.Session).getD ((⟨0, (⟨0, [], 0⟩ : api_Reply)⟩ : store_last) : store_last)).reply).E), vS ((((mget a0.sessions a1.Session).getD ((⟨0, (⟨0, [], 0⟩ : api_Reply)⟩ : store_last) : store_last)).reply).Value), vW ((((mget a0.sessions a1.Session).getD ((⟨0, (⟨0, [], 0⟩ : api_Reply)⟩ : store_last) : store_last)).reply).Version)].toArray, vB ((mget a0.sessions a1.Session).isSome)]), (8, .agg [vW (((mget a0.sessions a1.Session).getD ((⟨0, (⟨0, [], 0⟩ : api_Reply)⟩ : store_last) : store_last)).num), vI ((((mget a0.sessions a1.Session).getD ((⟨0, (⟨0, [], 0⟩ : api_Reply)⟩ : store_last) : store_last)).reply).E), vS ((((mget a0.sessions a1.Session).getD ((⟨0, (⟨0, [], 0⟩ : api_Reply)⟩ : store_last) : store_last)).reply).Value), vW ((((mget a0.sessions a1.Session).getD ((⟨0, (⟨0, [], 0⟩ : api_Reply)⟩ : store_last) : store_last)).reply).Version)].toArray), (9, vB ((mget a0.sessions a1.Session).isSome))] rfl ?_
            refine stage rfl rfl rfl rfl [0, 1, 3, 7, 0, 16, 63, 127, 255, 255, 0, 1535, 4095] [0, 1, 2, 3, 4, 5, 6, 7, 8, 9] [10] rfl rfl rfl (qc rfl rfl (s_u (o_mv rfl)) (qc rfl rfl (s_u (o_nc rfl)) (qc rfl rfl (s_u (o_fa fa96_3 rfl)) (qc rfl rfl (s_u (o_ld 1 sc94 rfl rfl rfl)) (qc rfl rfl (s_u (o_fa fa35_2 rfl)) (qc rfl rfl (s_u (o_ld 3 sc22 rfl rfl rfl)) (qc rfl rfl (s_u (o_lk (kv := vW) (vv := store_last.v) (key := a1.Session) (z0 := ((⟨0, (⟨0, [], 0⟩ : api_Reply)⟩ : store_last) : store_last)) 6 Tryz.underlying94 (kok_W Tryz.underlying22) (fun _ => by kernel_rfl) rfl rfl rfl)) (qc rfl rfl (s_u (o_mv rfl)) (qc rfl rfl (s_u (o_ext rfl rfl)) (qc rfl rfl (s_u (o_ext rfl rfl)) qn)))))))))) ?_ (fun h => absurd h (by decide))
            refine ec (eo_n rfl (s_w (o_al ze102)) fun b30 => ?_) en
            refine stage rfl rfl rfl rfl [0, 1, 3, 7, 0, 16, 63, 127, 255, 255, 0, 1535, 4095] [0, 1, 2, 3, 4, 5, 6, 7, 8, 9] [11] rfl rfl rfl (qc rfl rfl (s_u (o_mv rfl)) (qc rfl rfl (s_u (o_nc rfl)) (qc rfl rfl (s_u (o_fa fa96_3 rfl)) (qc rfl rfl (s_u (o_ld 2 sc94 rfl rfl rfl)) (qc rfl rfl (s_u (o_fa fa35_2 rfl)) (qc rfl rfl (s_u (o_ld 4 sc22 rfl rfl rfl)) (qc rfl rfl (s_u (o_lk (kv := vW) (vv := store_last.v) (key := a1.Session) (z0 := ((⟨0, (⟨0, [], 0⟩ : api_Reply)⟩ : store_last) : store_last)) 7 Tryz.underlying94 (kok_W Tryz.underlying22) (fun _ => by kernel_rfl) rfl rfl rfl)) (qc rfl rfl (s_u (o_mv rfl)) (qc rfl rfl (s_u (o_ext rfl rfl)) (qc rfl rfl (s_u (o_ext rfl rfl)) qn)))))))))) ?_ (fun h => absurd h (by decide))
            refine ec (eo_u rfl (s_u (o_stn ag102 rfl rfl rfl rfl rfl rfl rfl)) (Le.refl _) ?_) en
            refine stage_ext [(12, vB ((mget a0.sessions a1.Session).isSome))] rfl ?_
            refine stage rfl rfl rfl rfl [0, 1, 3, 7, 0, 16, 63, 127, 255, 255, 0, 1535, 4095] [9, 12] [] rfl rfl rfl (qc rfl rfl (s_u (o_ext rfl rfl)) (qc rfl rfl (s_u (o_as rfl)) qn)) en ?_
            intro _
            refine ex_sub (E' := [(0, pt b0_ 0), (3, pt b7 0), (4, pt b8 0), (8, pt b30 0), (9, vB ((mget a0.sessions a1.Session).isSome))]) ⟨rfl, rfl, rfl, rfl, rfl, trivial⟩ ?_
            refine x_seq ?_
            refine c_seq ?_
            refine c_blk ?_
            refine c_seq ?_
            refine c_reg ?_
            refine r_u (o_mv rfl) ?_
            refine r_u (o_mv rfl) ?_
            refine r_s (s_gt rfl rfl fun g => o_fa fa35_3 rfl) ?_
            refine r_s (s_gt rfl rfl fun g => o_ld 4 sc22 (evg rfl g) rfl rfl) ?_
            refine r_s (s_gt rfl rfl fun g => o_fa fa102_0 rfl) ?_
            refine r_s (s_gt rfl rfl fun g => o_ld 0 sc22 (evg rfl g) rfl rfl) ?_
            refine r_s (s_gt rfl rfl fun g => o_bin (evg rfl g) (evg rfl g) (bW_eq a1.Num (((mget a0.sessions a1.Session).getD ((⟨0, (⟨0, [], 0⟩ : api_Reply)⟩ : store_last) : store_last)).num))) ?_
            refine r_u (o_and rfl rfl) ?_
            refine r_u (o_as rfl) ?_
            refine r_nil ?_
            refine x_seq ?_
            refine c_if (b := ((mget a0.sessions a1.Session).isSome && (a1.Num == (((mget a0.sessions a1.Session).getD ((⟨0, (⟨0, [], 0⟩ : api_Reply)⟩ : store_last) : store_last)).num)))) rfl (fun h31 => ?_) fun h31 => ?_
            · have hm32 := ift hm29 h31
              clear hm29
              refine c_seq ?_
              refine c_reg ?_
              refine r_u (o_fa fa102_1 rfl) ?_
              refine r_u (o_ldn 0 (api_Reply.c (((mget a0.sessions a1.Session).getD ((⟨0, (⟨0, [], 0⟩ : api_Reply)⟩ : store_last) : store_last)).reply)) ag41 rfl rfl rfl rfl) ?_
              refine rl_st (fun _ h => mv3 h) ?_
              refine r_u0 (o_stn ag41 rfl rfl rfl rfl rfl rfl rfl) ?_
              refine r_u (o_as rfl) ?_
              refine r_nil ?_
              refine x_seq ?_
              refine c_ret ?_
              refine ex_st (fun _ h => mv3 (mv6 h)) ?_
              refine ex_st (fun _ h => st_some (f := table_Table.op g2) (a := (⟨p21.2.2, p21.1⟩ : table_Table)) (st_star_f (A := table_Table.fl b14 (⟨p21.2.2, p21.1⟩ : table_Table) g2) h)) ?_
              obtain rfl := Option.some.inj hm32
              exact x_d2 rfl (rv_n 1 (api_Reply.c (((mget a0.sessions a1.Session).getD ((⟨0, (⟨0, [], 0⟩ : api_Reply)⟩ : store_last) : store_last)).reply)) ag41 rfl rfl rfl rfl) (rv_t rfl) (fun _ h => st_pk 8 [3, 0, 7, 6] (by decide) h) (Le.refl _) ⟨_, rfl, (⟨(pt b14 0, g2), (pv23, g24), g6⟩ : store_Store.G), rfl, rfl, rfl⟩
            · have hm32 := iff_ hm29 h31
              clear hm29
              refine c_seq ?_
              refine c_reg ?_
              refine r_u (o_mv rfl) ?_
              refine r_u (o_mv rfl) ?_
              refine r_s (s_gt rfl rfl fun g => o_fa fa35_3 rfl) ?_
              refine r_s (s_gt rfl rfl fun g => o_ld 4 sc22 (evg rfl g) rfl rfl) ?_
              refine r_s (s_gt rfl rfl fun g => o_fa fa102_0 rfl) ?_
              refine r_s (s_gt rfl rfl fun g => o_ld 0 sc22 (evg rfl g) rfl rfl) ?_
              refine r_s (s_gt rfl rfl fun g => o_bin (evg rfl g) (evg rfl g) (bW_lt a1.Num (((mget a0.sessions a1.Session).getD ((⟨0, (⟨0, [], 0⟩ : api_Reply)⟩ : store_last) : store_last)).num))) ?_
              refine r_u (o_and rfl rfl) ?_
              refine r_u (o_as rfl) ?_
              refine r_nil ?_
              refine x_seq ?_
              refine c_if (b := ((mget a0.sessions a1.Session).isSome && decide (a1.Num < (((mget a0.sessions a1.Session).getD ((⟨0, (⟨0, [], 0⟩ : api_Reply)⟩ : store_last) : store_last)).num)))) rfl (fun h33 => ?_) fun h33 => ?_
              · have hm34 := ift hm32 h33
                clear hm32
                refine c_seq ?_
                refine c_reg ?_
                refine r_u (o_bld [vI 122, vS [], vW 0] rfl (fun _ => by kernel_rfl)) ?_
                refine rl_st (fun _ h => mv3 h) ?_
                refine r_u0 (o_stn ag41 rfl rfl rfl rfl rfl rfl rfl) ?_
                refine r_u (o_as rfl) ?_
                refine r_nil ?_
                refine x_seq ?_
                refine c_ret ?_
                refine ex_st (fun _ h => mv3 (mv6 h)) ?_
                refine ex_st (fun _ h => st_some (f := table_Table.op g2) (a := (⟨p21.2.2, p21.1⟩ : table_Table)) (st_star_f (A := table_Table.fl b14 (⟨p21.2.2, p21.1⟩ : table_Table) g2) h)) ?_
                obtain rfl := Option.some.inj hm34
                exact x_d2 rfl (rv_n 1 [vI 122, vS [], vW 0] ag41 rfl rfl rfl rfl) (rv_t rfl) (fun _ h => st_pk 8 [3, 0, 7, 6] (by decide) h) (Le.refl _) ⟨_, rfl, (⟨(pt b14 0, g2), (pv23, g24), g6⟩ : store_Store.G), rfl, rfl, rfl⟩
              · have hm34 := iff_ hm32 h33
                clear hm32
                refine c_seq ?_
                refine c_reg ?_
                refine r_u (o_mv rfl) ?_
                refine r_u (o_not rfl) ?_
                refine r_u (o_mv rfl) ?_
                refine r_s (s_gt rfl rfl fun g => o_mv rfl) ?_
                refine r_s (s_gt rfl rfl fun g => o_nc (evg rfl g)) ?_
                refine r_s (s_gt rfl rfl fun g => o_fa fa96_3 (evg rfl g)) ?_
                refine r_s (s_gt rfl rfl fun g => o_ld 2 sc94 (evg rfl g) rfl rfl) ?_
                refine r_s (s_gt rfl rfl fun g => o_lenM (kv := vW) (vv := store_last.v) 7 Tryz.underlying94 (evg rfl g) rfl) ?_
                refine r_s (s_gt rfl rfl fun g => o_bin (evg rfl g) rfl (bI_ge (a0.sessions.length : Int) 64)) ?_
                refine r_u (o_and rfl rfl) ?_
                refine r_u (o_as rfl) ?_
                refine r_nil ?_
                refine x_seq ?_
                refine c_if (b := (!((mget a0.sessions a1.Session).isSome) && decide (64 ≤ (a0.sessions.length : Int)))) rfl (fun h35 => ?_) fun h35 => ?_
                · have hm36 := ift hm34 h35
                  clear hm34
                  refine c_seq ?_
                  refine c_reg ?_
                  refine r_u (o_bld [vI 3, vS [], vW 0] rfl (fun _ => by kernel_rfl)) ?_
                  refine rl_st (fun _ h => mv3 h) ?_
                  refine r_u0 (o_stn ag41 rfl rfl rfl rfl rfl rfl rfl) ?_
                  refine r_u (o_as rfl) ?_
                  refine r_nil ?_
                  refine x_seq ?_
                  refine c_ret ?_
                  refine ex_st (fun _ h => mv3 (mv6 h)) ?_
                  refine ex_st (fun _ h => st_some (f := table_Table.op g2) (a := (⟨p21.2.2, p21.1⟩ : table_Table)) (st_star_f (A := table_Table.fl b14 (⟨p21.2.2, p21.1⟩ : table_Table) g2) h)) ?_
                  obtain rfl := Option.some.inj hm36
                  exact x_d2 rfl (rv_n 1 [vI 3, vS [], vW 0] ag41 rfl rfl rfl rfl) (rv_t rfl) (fun _ h => st_pk 8 [3, 0, 7, 6] (by decide) h) (Le.refl _) ⟨_, rfl, (⟨(pt b14 0, g2), (pv23, g24), g6⟩ : store_Store.G), rfl, rfl, rfl⟩
                · have hm36 := iff_ hm34 h35
                  clear hm34
                  refine c_skip ?_
                  refine x_blk ?_
                  refine x_seq ?_
                  refine c_seq ?_
                  refine c_reg ?_
                  refine r_u (o_mv rfl) ?_
                  refine r_u (o_fa fa35_4 rfl) ?_
                  refine r_u (o_ldn 4 (api_Op.c a1.Op) ag27 rfl rfl rfl rfl) ?_
                  refine rl_st (fun _ h => mv2 (mv6 h)) ?_
                  refine rl_st (fun _ h => st_some (f := table_Table.op g2) (a := (⟨p21.2.2, p21.1⟩ : table_Table)) (st_star_f (A := table_Table.fl b14 (⟨p21.2.2, p21.1⟩ : table_Table) g2) h)) ?_
                  obtain ⟨r37, hr37, hm46⟩ := bs hm36
                  clear hm36
                  refine rl_st (fun _ h => mv4 (mv2 (mv7 (mv6 h)))) ?_
                  refine r_sw (s_w (o_call ca38 rfl (store_Store_do.ok b0_ (⟨a0.c, (some (⟨p21.2.2, p21.1⟩ : table_Table)), p21.2.1, a0.sessions, a0.seq + 1, (if a0.now < a1.Now then a1.Now else a0.now), a0.version, a0.tally⟩ : store_Store) (⟨(pt b14 0, g2), (pv23, g24), g6⟩ : store_Store.G) a1.Op r37 hr37))) ?_
                  rintro _ R _ _ ⟨⟨⟨pv40, g41⟩, ⟨pv43, g44⟩, g45⟩, rfl, rfl, rfl⟩
                  refine r_new (o_al ze41) fun b47 => ?_
                  refine r_u0 (o_stn ag41 rfl rfl rfl rfl rfl rfl rfl) ?_
                  refine r_nil ?_
                  refine x_seq ?_
                  refine c_seq ?_
                  refine c_any mixed (effs := [10]) (V := []) ?_
                  refine stage_st (fun _ h => mv4 h) ?_
                  refine stage_ext [(0, pt b0_ 0), (1, pt b0_ 0), (2, pt b0_ 6), (3, g45), (4, pt b7 2), (5, vW a1.Session), (6, pt b7 3), (7, vW a1.Num), (8, .agg (api_Reply.c r37.1).toArray), (9, .agg [vW a1.Num, vI r37.1.E, vS r37.1.Value, vW r37.1.Version].toArray)] rfl ?_
                  refine stage rfl rfl rfl rfl [0, 1, 3, 7, 0, 16, 0, 64, 0, 448, 1023] [0, 1, 2, 3, 4, 5, 6, 7, 8, 9] [10] rfl rfl rfl (qc rfl rfl (s_u (o_mv rfl)) (qc rfl rfl (s_u (o_nc rfl)) (qc rfl rfl (s_u (o_fa fa96_3 rfl)) (qc rfl rfl (s_u (o_ld 2 sc94 rfl rfl rfl)) (qc rfl rfl (s_u (o_fa fa35_2 rfl)) (qc rfl rfl (s_u (o_ld 7 sc22 rfl rfl rfl)) (qc rfl rfl (s_u (o_fa fa35_3 rfl)) (qc rfl rfl (s_u (o_ld 7 sc22 rfl rfl rfl)) (qc rfl rfl (s_u (o_ldn 1 (api_Reply.c r37.1) ag41 rfl rfl rfl rfl)) (qc rfl rfl (s_u (o_bld [vW a1.Num, vI r37.1.E, vS r37.1.Value, vW r37.1.Version] rfl (fun _ => by kernel_rfl))) qn)))))))))) ?_ (fun h => absurd h (by decide))
                  refine ec (eo_u rfl (s_u (o_mu (kv := vW) (vv := store_last.v) (key := a1.Session) (val := (⟨a1.Num, r37.1⟩ : store_last)) Tryz.underlying94 (kok_W Tryz.underlying22) rfl rfl rfl rfl)) (Le.refl _) ?_) en
                  refine stage rfl rfl rfl rfl [0, 1, 3, 7, 0, 16, 0, 64, 0, 448, 1023] [] [] rfl rfl rfl qn en ?_
                  intro _
                  refine ex_sub (E' := [(4, pt b8 0), (10, pt b47 0)]) ⟨rfl, rfl, trivial⟩ ?_
                  refine x_seq ?_
                  refine c_seq ?_
                  refine c_reg ?_
                  refine r_u (o_ldn 1 (api_Reply.c r37.1) ag41 rfl rfl rfl rfl) ?_
                  refine rl_st (fun _ h => mv6 h) ?_
                  refine r_u0 (o_stn ag41 rfl rfl rfl rfl rfl rfl rfl) ?_
                  refine r_u (o_as rfl) ?_
                  refine r_nil ?_
                  refine x_seq ?_
                  refine c_ret ?_
                  obtain rfl := Option.some.inj hm46
                  exact x_d2 rfl (rv_n 0 (api_Reply.c r37.1) ag41 rfl rfl rfl rfl) (rv_t rfl) (fun _ h => st_pk 9 [3, 4, 5, 1] (by decide) h) (Le.refl _) ⟨_, rfl, (⟨(pv40, g41), (pv43, g44), g45⟩ : store_Store.G), rfl, rfl, rfl⟩
        · refine c_blk ?_
          refine cd_loopG (M := fun k55 (s : Int × Int × Option policy_Policy × (List (Str × api_Entry)) × (Value × policy_Policy.G)) => store_Store_Apply_l0 r18 k55 s.1 s.2.1 s.2.2.1 s.2.2.2.1 = some p21) (Ef := fun (s : Int × Int × Option policy_Policy × (List (Str × api_Entry)) × (Value × policy_Policy.G)) => [(0, pt b0_ 0), (3, pt b7 0), (4, pt b8 0), (61, v19), (62, vI (r18.length : Int)), (63, vI s.1)]) (Rf := fun (s : Int × Int × Option policy_Policy × (List (Str × api_Entry)) × (Value × policy_Policy.G)) => R) (Lf := fun (s : Int × Int × Option policy_Policy × (List (Str × api_Entry)) × (Value × policy_Policy.G)) => Bk b14 138 [g2.m, vI s.2.1] :: Bk b0_ 96 [vI a0.c.Policy, vI a0.c.Entries, vI a0.c.Bytes, vW a0.c.Seed, pt b14 0, s.2.2.2.2.1, g6, vW (a0.seq + 1), vW (if a0.now < a1.Now then a1.Now else a0.now), vW a0.version, vI a0.tally.Asked, vI a0.tally.Hits] :: Bk b8 41 [vI 0, vS [], vW 0] :: Bk b7 35 (api_Record.c a1) :: OwS true 9 1 eS v19 r18 :: OwM vS api_Entry.v g2.m s.2.2.2.1 :: OwM vW store_last.v g6 a0.sessions :: rO (policy_Policy.op s.2.2.2.2.2) s.2.2.2.2.1 s.2.2.1 :: F) (((r18.length : Int) - 0).toNat + 1) (0, x13.bytes, a0.p, x13.m, (pv4, g5)) hp25 ⟨rfl, rfl, rfl, rfl, rfl, rfl, trivial⟩ (fun _ h => st_pk 8 [1, 3, 4, 5, 0, 2, 7, 6] (by decide) h) (fun _ h => by cases h) fun k55 s hM57 => ?_
          obtain ⟨s_48, c_49, c_50, c_51, pv52⟩ := s
          have hm56 : store_Store_Apply_l0 r18 (k55 + 1) s_48 c_49 c_50 c_51 = some p21 := hM57
          rw [store_Store_Apply_l0] at hm56
          obtain ⟨pv53, g54⟩ := pv52
          refine c_seq ?_
          refine c_reg ?_
          refine r_u (o_bin rfl rfl (bI_lt s_48 (r18.length : Int))) ?_
          refine r_nil ?_
          refine x_seq ?_
          refine c_seq ?_
          refine c_if (b := decide (s_48 < (r18.length : Int))) rfl (fun h58 => ?_) fun h58 => ?_
          · have hm59 := ift hm56 h58
            clear hm56
            refine c_skip ?_
            refine x_seq ?_
            refine c_seq ?_
            refine c_blk ?_
            refine c_seq ?_
            refine c_reg ?_
            obtain ⟨x60, hx60, hm61⟩ := bs hm59
            clear hm59
            refine r_u (o_ixO 4 Tryz.underlying98 (fun _ => by kernel_rfl) rfl rfl rfl hx60) ?_
            refine r_u (o_ldO0 4 sc9 rfl rfl hx60 rfl rfl) ?_
            refine r_u (o_as rfl) ?_
            refine r_nil ?_
            refine x_seq ?_
            refine c_seq ?_
            refine c_reg ?_
            refine r_u (o_mv rfl) ?_
            refine r_u (o_nc rfl) ?_
            refine r_u (o_fa fa96_1 rfl) ?_
            refine r_u (o_ld 1 sc92 rfl rfl rfl) ?_
            refine r_u (o_mv rfl) ?_
            obtain ⟨r62, hr62, hm63⟩ := ltx hm61
            clear hm61
            refine rl_st (fun _ h => mv1 (mv5 h)) ?_
            refine r_c (s_w (o_call ca36 rfl (table_Table_Drop.ok b14 (⟨c_51, c_49⟩ : table_Table) g2 x60 r62 hr62))) ?_
            refine r_nil ?_
            refine x_seq ?_
            refine cd_st (fun _ h => mv7 h) ?_
            refine cd_opt (fun ho66 => ?_) (fun x64 b65 ho66 => ?_)
            · rintro rfl
              have hm67 := om_n hm63 ho66
              clear hm63
              cases hm67
            · rintro rfl
              have hm67 := om_s hm63 ho66
              clear hm63
              obtain ⟨⟨pv69, g70⟩, ⟨pv72, g73⟩⟩ := g54
              refine cd_st (fun _ h => st_star_o h) ?_
              refine c_reg ?_
              refine r_u (o_mv rfl) ?_
              refine r_u (o_nc rfl) ?_
              refine r_u (o_fa fa96_2 rfl) ?_
              refine r_u (o_ld 5 sc93 rfl rfl rfl) ?_
              refine r_u (o_mv rfl) ?_
              obtain ⟨r74, hr74, hm82⟩ := bs hm67
              clear hm67
              refine r_sw (s_w (o_call ca37 rfl (policy_Policy_Remove.ok b65 x64 (⟨(pv69, g70), (pv72, g73)⟩ : policy_Policy.G) x60 r74 hr74))) ?_
              rintro _ R _ _ ⟨⟨⟨pv77, g78⟩, ⟨pv80, g81⟩⟩, rfl, rfl, rfl⟩
              refine r_nil ?_
              refine x_blk ?_
              refine x_seq ?_
              refine c_reg ?_
              refine r_u (o_bin rfl rfl (bI_add s_48 1)) ?_
              refine r_u (o_mv rfl) ?_
              refine r_nil ?_
              refine ex_st (fun _ h => st_some (f := policy_Policy.op (⟨(pv77, g78), (pv80, g81)⟩ : policy_Policy.G)) (a := r74.2) (st_star_f (A := policy_Policy.fl b65 r74.2 (⟨(pv77, g78), (pv80, g81)⟩ : policy_Policy.G)) h)) ?_
              exact x_lp (i64 (s_48 + 1), r62.2.bytes, (some r74.2), r62.2.m, (pt b65 0, (⟨(pv77, g78), (pv80, g81)⟩ : policy_Policy.G))) hm82 ⟨rfl, rfl, rfl, rfl, rfl, rfl, trivial⟩ (fun _ h => st_pk 8 [1, 3, 4, 5, 6, 2, 7, 0] (by decide) h)
          · have hm59 := iff_ hm56 h58
            clear hm56
            refine c_exit (x_exit (ks' := _) rfl ?_)
            obtain rfl := Option.some.inj hm59
            exact x_sub (K27 (pv53, g54)) ⟨rfl, rfl, rfl, trivial⟩ (fun _ h => st_pk 8 [0, 1, 2, 3, 4, 5, 6, 7] (by decide) h)

def hawthornlaw12_played_l0 (a1 : List hawthornlaw12_Act) : Nat → (Option store_Store) → UInt64 → Int → Option (Option store_Store × UInt64)
  | 0, _, _, _ => none
  | k30 + 1, s_24, now_25, i_26 => if (decide (i_26 < (a1.length : Int)) && decide (i_26 < 60)) then om s_24 (none) fun x35 => (gi a1 i_26).bind fun x46 => (hawthornlaw12_record (store_Store_Seq x35) now_25 x46).bind fun r48 => (store_Store_Apply x35 r48.1).bind fun r51 => hawthornlaw12_played_l0 a1 k30 (some r51.2.2) r48.2 (i64 (i_26 + 1)) else some (s_24, now_25)
def hawthornlaw12_played (a0 : api_Config) (a1 : List hawthornlaw12_Act) : Option (Option store_Store × UInt64 × Bool) :=
  (store_New (hawthornlaw12_Config a0)).bind fun r1 => Option.bind (hawthornlaw12_played_l0 a1 (((a1.length : Int) - 0).toNat + 1) r1.1 0 0) fun p6 => om p6.1 (none) fun x13 => some ((some x13), p6.2, ((r1.2 == 0) && true))
theorem hawthornlaw12_played.ok {G R F} (a0 : api_Config) (v1_ : Value) (a1 : List hawthornlaw12_Act) (h1_ : RoS R v1_ 9 hawthornlaw12_Act.c a1) (r : Option store_Store × UInt64 × Bool) (hm : hawthornlaw12_played a0 a1 = some r) : CO Tryz.prog 11 [.agg (api_Config.c a0).toArray, v1_] G R (F)
    (Ret fun u R' L' => ∃ (p0 : Value × store_Store.G), u = .tuple #[p0.1, vW r.2.1, vB r.2.2] ∧ R' = R ∧ L' = rO (store_Store.op p0.2) p0.1 r.1 :: F) := by
  unfold hawthornlaw12_played at hm
  refine co_ofN (N := 52) Tryz.func11 rfl rfl ?_
  refine c_seq ?_
  refine c_reg ?_
  refine r_new (o_bx (api_Config.c a0) rfl rfl) fun b0 => ?_
  refine r_u (o_as rfl) ?_
  refine r_u (o_as rfl) ?_
  refine r_u (o_as rfl) ?_
  refine r_nil ?_
  refine x_seq ?_
  refine c_seq ?_
  refine c_reg ?_
  refine r_u (o_ldn 0 (api_Config.c a0) ag24 rfl rfl rfl rfl) ?_
  refine r_u (o_callq ca18 rfl (hawthornlaw12_Config.ok a0 _ rfl)) ?_
  obtain ⟨r1, hr1, hm5⟩ := bs hm
  clear hm
  refine r_sw (s_w (o_call ca19 rfl (store_New.ok (hawthornlaw12_Config a0) r1 hr1))) ?_
  rintro _ R _ _ ⟨⟨pv3, g4⟩, rfl, rfl, rfl⟩
  refine r_u (o_mv rfl) ?_
  refine r_u (o_ext rfl rfl) ?_
  refine r_u (o_ext rfl rfl) ?_
  refine r_u (o_as rfl) ?_
  refine r_u (o_as rfl) ?_
  refine r_nil ?_
  refine x_seq ?_
  refine c_seq ?_
  refine c_reg ?_
  refine r_u (o_as rfl) ?_
  refine r_nil ?_
  refine x_seq ?_
  refine c_seq ?_
  refine c_seq ?_
  refine c_reg ?_
  refine r_u (o_as rfl) ?_
  refine r_nil ?_
  refine x_seq ?_
  obtain ⟨p6, hp10, hm11⟩ := bs hm5
  refine cd_cut (fun x ks => ∀ (pv7 : Value × store_Store.G), EX x .normal ks [(8, vI r1.2), (7, pv7.1), (9, vW p6.2)] R (Bk b0 24 (api_Config.c a0) :: rO (store_Store.op pv7.2) pv7.1 p6.1 :: F)) ?_ fun K12 => ?_
  · intro pv7
    obtain ⟨pv8, g9⟩ := pv7
    refine x_seq ?_
    refine c_seq ?_
    refine cd_st (fun _ h => mv1 h) ?_
    refine cd_opt (fun ho15 => ?_) (fun x13 b14 ho15 => ?_)
    · rintro rfl
      have hm16 := om_n hm11 ho15
      clear hm11
      cases hm16
    · rintro rfl
      have hm16 := om_s hm11 ho15
      clear hm11
      obtain ⟨⟨pv18, g19⟩, ⟨pv21, g22⟩, g23⟩ := g9
      refine cd_st (fun _ h => st_star_o h) ?_
      refine c_reg ?_
      refine r_u (o_mv rfl) ?_
      refine r_u (o_mv rfl) ?_
      refine r_u (o_mv rfl) ?_
      refine r_u (o_bin rfl rfl (bI_eq r1.2 0)) ?_
      refine r_u (o_mv rfl) ?_
      refine r_s (s_gt rfl rfl fun g => o_mv rfl) ?_
      refine r_s (s_gt rfl rfl fun g => o_bin (evg rfl g) rfl (bP_nep Tryz.underlying30)) ?_
      refine r_u (o_and rfl rfl) ?_
      refine r_u (o_as rfl) ?_
      refine r_u (o_as rfl) ?_
      refine r_u (o_as rfl) ?_
      refine r_nil ?_
      refine x_seq ?_
      refine c_ret ?_
      refine ex_st (fun _ h => st_some (f := store_Store.op (⟨(pv18, g19), (pv21, g22), g23⟩ : store_Store.G)) (a := x13) (st_star_f (A := store_Store.fl b14 x13 (⟨(pv18, g19), (pv21, g22), g23⟩ : store_Store.G)) h)) ?_
      obtain rfl := Option.some.inj hm16
      refine ex_st (fun _ h => st_pk 2 [0] (by decide) h) ?_
      exact x_r3 rfl (rv_t rfl) (rv_t rfl) (rv_t rfl) (Le.refl _) ⟨_, rfl, (pt b14 0, (⟨(pv18, g19), (pv21, g22), g23⟩ : store_Store.G)), rfl, rfl, rfl⟩
  · refine c_blk ?_
    refine cd_loopG (M := fun k30 (s : Option store_Store × UInt64 × Int × (Value × store_Store.G)) => hawthornlaw12_played_l0 a1 k30 s.1 s.2.1 s.2.2.1 = some p6) (Ef := fun (s : Option store_Store × UInt64 × Int × (Value × store_Store.G)) => [(1, v1_), (8, vI r1.2), (7, s.2.2.2.1), (9, vW s.2.1), (10, vI s.2.2.1)]) (Rf := fun (s : Option store_Store × UInt64 × Int × (Value × store_Store.G)) => R) (Lf := fun (s : Option store_Store × UInt64 × Int × (Value × store_Store.G)) => Bk b0 24 (api_Config.c a0) :: rO (store_Store.op s.2.2.2.2) s.2.2.2.1 s.1 :: F) (((a1.length : Int) - 0).toNat + 1) (r1.1, 0, 0, (pv3, g4)) hp10 ⟨rfl, rfl, rfl, rfl, rfl, trivial⟩ (fun _ h => st_pk 2 [1, 0] (by decide) h) (fun _ h => by cases h) fun k30 s hM32 => ?_
    obtain ⟨s_24, now_25, i_26, pv27⟩ := s
    have hm31 : hawthornlaw12_played_l0 a1 (k30 + 1) s_24 now_25 i_26 = some p6 := hM32
    rw [hawthornlaw12_played_l0] at hm31
    obtain ⟨pv28, g29⟩ := pv27
    refine c_seq ?_
    refine c_seq ?_
    refine c_reg ?_
    refine r_u (o_mv rfl) ?_
    refine r_u (o_mv rfl) ?_
    refine r_u (o_lenR Tryz.underlying25 rfl h1_) ?_
    refine r_u (o_bin rfl rfl (bI_lt i_26 (a1.length : Int))) ?_
    refine r_u (o_mv rfl) ?_
    refine r_s (s_gt rfl rfl fun g => o_mv rfl) ?_
    refine r_s (s_gt rfl rfl fun g => o_bin (evg rfl g) rfl (bI_lt i_26 60)) ?_
    refine r_u (o_and rfl rfl) ?_
    refine r_nil ?_
    refine x_seq ?_
    refine c_if (b := (decide (i_26 < (a1.length : Int)) && decide (i_26 < 60))) rfl (fun h33 => ?_) fun h33 => ?_
    · have hm34 := ift hm31 h33
      clear hm31
      refine c_skip ?_
      refine x_seq ?_
      refine c_seq ?_
      refine c_blk ?_
      refine c_seq ?_
      refine cd_st (fun _ h => mv1 h) ?_
      refine cd_opt (fun ho37 => ?_) (fun x35 b36 ho37 => ?_)
      · rintro rfl
        have hm38 := om_n hm34 ho37
        clear hm34
        cases hm38
      · rintro rfl
        have hm38 := om_s hm34 ho37
        clear hm34
        obtain ⟨⟨pv40, g41⟩, ⟨pv43, g44⟩, g45⟩ := g29
        refine cd_st (fun _ h => st_star_o h) ?_
        obtain ⟨x46, hx46, hm47⟩ := bs hm38
        clear hm38
        obtain ⟨b46, o46, l46, T46, fr46, c46, hv46, hR46, he46, hi46⟩ := RoS.ne h1_ hx46
        obtain ⟨r48, hr48, hm49⟩ := bs hm47
        clear hm47
        refine c_any mixed (effs := [11, 12]) (V := []) ?_
        refine stage_ext [(0, pt b36 0), (1, vW (store_Store_Seq x35)), (2, vW now_25), (3, v1_), (4, vI i_26), (5, pt b46 (o46 + i_26.toNat * 9)), (6, .agg (hawthornlaw12_Act.c x46).toArray), (7, .tuple #[.agg (api_Record.c r48.1).toArray, vW r48.2]), (8, .tuple #[.agg (api_Record.c r48.1).toArray, vW r48.2]), (9, .agg (api_Record.c r48.1).toArray), (10, vW r48.2)] rfl ?_
        refine stage rfl rfl rfl rfl [0, 1, 0, 0, 0, 24, 56, 127, 255, 511, 511, 0, 3071, 8191] [0, 1, 2, 3, 4, 5, 6, 7, 8, 9, 10] [11] rfl rfl rfl (qc rfl rfl (s_u (o_mv rfl)) (qc rfl rfl (s_u (o_callqP ca14 rfl (store_Store_Seq.ok b36 x35 (⟨(pv40, g41), (pv43, g44), g45⟩ : store_Store.G) _ rfl) (fun _ h => st_pk 5 [0, 1, 2, 3, 4] (by decide) h) (fun _ h => st_pk 5 [0, 1, 2, 3, 4] (by decide) h))) (qc rfl rfl (s_u (o_mv rfl)) (qc rfl rfl (s_u (o_mv rfl)) (qc rfl rfl (s_u (o_mv rfl)) (qc rfl rfl (s_u (o_ix (sz := 9) Tryz.underlying25 (fun _ => by kernel_rfl) rfl rfl hv46 hi46)) (qc rfl rfl (s_u (o_ldnR (hawthornlaw12_Act.c x46) ag29 rfl hR46 he46 rfl)) (qc rfl rfl (s_u (o_callq ca13 rfl (hawthornlaw12_record.ok (store_Store_Seq x35) now_25 x46 r48 hr48))) (qc rfl rfl (s_u (o_mv rfl)) (qc rfl rfl (s_u (o_ext rfl rfl)) (qc rfl rfl (s_u (o_ext rfl rfl)) qn))))))))))) ?_ (fun h => absurd h (by decide))
        refine ec (eo_n rfl (s_w (o_al ze35)) fun b50 => ?_) en
        refine stage rfl rfl rfl rfl [0, 1, 0, 0, 0, 24, 56, 127, 255, 511, 511, 0, 3071, 8191] [0, 1, 2, 3, 4, 5, 6, 7, 8, 9, 10] [12] rfl rfl rfl (qc rfl rfl (s_u (o_mv rfl)) (qc rfl rfl (s_u (o_callqP ca14 rfl (store_Store_Seq.ok b36 x35 (⟨(pv40, g41), (pv43, g44), g45⟩ : store_Store.G) _ rfl) (fun _ h => st_pk 6 [1, 2, 3, 4, 0, 5] (by decide) h) (fun _ h => st_pk 6 [4, 0, 1, 2, 3, 5] (by decide) h))) (qc rfl rfl (s_u (o_mv rfl)) (qc rfl rfl (s_u (o_mv rfl)) (qc rfl rfl (s_u (o_mv rfl)) (qc rfl rfl (s_u (o_ix (sz := 9) Tryz.underlying25 (fun _ => by kernel_rfl) rfl rfl hv46 hi46)) (qc rfl rfl (s_u (o_ldnR (hawthornlaw12_Act.c x46) ag29 rfl hR46 he46 rfl)) (qc rfl rfl (s_u (o_callq ca13 rfl (hawthornlaw12_record.ok (store_Store_Seq x35) now_25 x46 r48 hr48))) (qc rfl rfl (s_u (o_mv rfl)) (qc rfl rfl (s_u (o_ext rfl rfl)) (qc rfl rfl (s_u (o_ext rfl rfl)) qn))))))))))) ?_ (fun h => absurd h (by decide))
        refine ec (eo_u rfl (s_u (o_stn ag35 rfl rfl rfl rfl rfl rfl rfl)) (Le.refl _) ?_) en
        refine stage_ext [(13, vW r48.2)] rfl ?_
        refine stage rfl rfl rfl rfl [0, 1, 0, 0, 0, 24, 56, 127, 255, 511, 511, 0, 3071, 8191] [10, 13] [] rfl rfl rfl (qc rfl rfl (s_u (o_ext rfl rfl)) (qc rfl rfl (s_u (o_as rfl)) qn)) en ?_
        intro _
        refine ex_sub (E' := [(1, v1_), (8, vI r1.2), (7, pt b36 0), (10, vI i_26), (11, pt b50 0), (12, vW r48.2)]) ⟨rfl, rfl, rfl, rfl, rfl, rfl, trivial⟩ ?_
        refine x_seq ?_
        refine c_seq ?_
        refine c_reg ?_
        refine r_u (o_mv rfl) ?_
        refine r_u (o_as rfl) ?_
        refine r_nil ?_
        refine x_seq ?_
        refine c_reg ?_
        refine r_u (o_mv rfl) ?_
        refine r_u (o_ldn 0 (api_Record.c r48.1) ag35 rfl rfl rfl rfl) ?_
        obtain ⟨r51, hr51, hm60⟩ := bs hm49
        clear hm49
        refine rl_st (fun _ h => mv4 (mv4 (mv4 (mv4 h)))) ?_
        refine r_sw (s_w (o_call ca15 rfl (store_Store_Apply.ok b36 x35 (⟨(pv40, g41), (pv43, g44), g45⟩ : store_Store.G) r48.1 r51 hr51))) ?_
        rintro _ R _ _ ⟨⟨⟨pv54, g55⟩, ⟨pv57, g58⟩, g59⟩, rfl, rfl, rfl⟩
        refine r_nil ?_
        refine x_blk ?_
        refine x_seq ?_
        refine c_reg ?_
        refine r_u (o_mv rfl) ?_
        refine r_u (o_bin rfl rfl (bI_add i_26 1)) ?_
        refine r_u (o_as rfl) ?_
        refine r_nil ?_
        refine ex_st (fun _ h => st_some (f := store_Store.op (⟨(pv54, g55), (pv57, g58), g59⟩ : store_Store.G)) (a := r51.2.2) (st_star_f (A := store_Store.fl b36 r51.2.2 (⟨(pv54, g55), (pv57, g58), g59⟩ : store_Store.G)) h)) ?_
        exact x_lp ((some r51.2.2), r48.2, i64 (i_26 + 1), (pt b36 0, (⟨(pv54, g55), (pv57, g58), g59⟩ : store_Store.G))) hm60 ⟨rfl, rfl, rfl, rfl, rfl, trivial⟩ (fun _ h => st_pk 3 [2, 0] (by decide) h)
    · have hm34 := iff_ hm31 h33
      clear hm31
      refine c_exit (x_exit (ks' := _) rfl ?_)
      obtain rfl := Option.some.inj hm34
      exact x_sub (K12 (pv28, g29)) ⟨rfl, rfl, rfl, trivial⟩ (fun _ h => st_pk 2 [0, 1] (by decide) h)

def store_Store_Entries_l0 (r12 : List Str) (x7 : table_Table) : Nat → (List api_Entry) → Int → Option (List api_Entry)
  | 0, _, _ => none
  | k23 + 1, out_20, s_21 => if decide (s_21 < (r12.length : Int)) then (gi r12 s_21).bind fun x28 => lt (table_Table_Get x7 x28) fun r30 => (apd 48 out_20 [r30.1]).bind fun l35 => store_Store_Entries_l0 r12 x7 k23 l35 (i64 (s_21 + 1)) else some out_20
def store_Store_Entries (a0 : store_Store) : Option (List api_Entry) :=
  om a0.t (none) fun x7 => (table_Table_Keys x7).bind fun r12 => Option.bind (store_Store_Entries_l0 r12 x7 (((r12.length : Int) - 0).toNat + 1) [] 0) fun p15 => some p15
theorem store_Store_Entries.ok {G R F} (b0_ : Nat) (a0 : store_Store) (g0_ : store_Store.G) (r : List api_Entry) (hm : store_Store_Entries a0 = some r) : CO Tryz.prog 16 [pt b0_ 0] G R (Bk b0_ 96 [vI a0.c.Policy, vI a0.c.Entries, vI a0.c.Bytes, vW a0.c.Seed, g0_.t.1, g0_.p.1, g0_.sessions, vW a0.seq, vW a0.now, vW a0.version, vI a0.tally.Asked, vI a0.tally.Hits] :: rO (table_Table.op g0_.t.2) g0_.t.1 a0.t :: rO (policy_Policy.op g0_.p.2) g0_.p.1 a0.p :: OwM vW store_last.v g0_.sessions a0.sessions :: F)
    (Ret fun u R' L' => ∃ p0, u = p0 ∧ R' = R ∧ L' = OwS true 50 4 api_Entry.c p0 r :: Bk b0_ 96 [vI a0.c.Policy, vI a0.c.Entries, vI a0.c.Bytes, vW a0.c.Seed, g0_.t.1, g0_.p.1, g0_.sessions, vW a0.seq, vW a0.now, vW a0.version, vI a0.tally.Asked, vI a0.tally.Hits] :: rO (table_Table.op g0_.t.2) g0_.t.1 a0.t :: rO (policy_Policy.op g0_.p.2) g0_.p.1 a0.p :: OwM vW store_last.v g0_.sessions a0.sessions :: F) := by
  obtain ⟨⟨pv1, g2⟩, ⟨pv4, g5⟩, g6⟩ := g0_
  unfold store_Store_Entries at hm
  refine co_ofN (N := 35) Tryz.func16 rfl rfl ?_
  refine c_seq ?_
  refine c_reg ?_
  refine r_u (o_as rfl) ?_
  refine r_nil ?_
  refine x_seq ?_
  refine c_seq ?_
  refine c_seq ?_
  refine c_reg ?_
  refine r_u (o_mv rfl) ?_
  refine r_u (o_bin rfl rfl (bP_eqp Tryz.underlying30)) ?_
  refine r_nil ?_
  refine x_seq ?_
  refine c_ff rfl ?_
  refine c_skip ?_
  refine x_seq ?_
  refine c_seq ?_
  refine c_reg ?_
  refine r_u (o_as rfl) ?_
  refine r_nil ?_
  refine x_seq ?_
  refine c_seq ?_
  refine c_seq ?_
  refine cd_st (fun _ h => mv1 h) ?_
  refine cd_opt (fun ho9 => ?_) (fun x7 b8 ho9 => ?_)
  · rintro rfl
    have hm10 := om_n hm ho9
    clear hm
    cases hm10
  · rintro rfl
    have hm10 := om_s hm ho9
    clear hm
    refine cd_st (fun _ h => st_star_o h) ?_
    refine c_reg ?_
    refine r_u (o_mv rfl) ?_
    refine r_u (o_nc rfl) ?_
    refine r_u (o_fa fa96_1 rfl) ?_
    refine r_u (o_ld 2 sc92 rfl rfl rfl) ?_
    obtain ⟨r12, hr12, hm14⟩ := bs hm10
    clear hm10
    refine r_sw (s_w (o_call ca39 rfl (table_Table_Keys.ok b8 x7 g2 r12 hr12))) ?_
    rintro v13 R _ _ ⟨_, rfl, rfl, rfl⟩
    refine r_u (o_lenO 0 Tryz.underlying98 rfl rfl) ?_
    refine r_u (o_mv rfl) ?_
    refine r_nil ?_
    refine x_seq ?_
    obtain ⟨p15, hp17, hm18⟩ := bs hm14
    refine cd_cut (fun x ks => ∀ (g16 : Value), EX x .normal ks [(3, g16)] R (Bk b8 138 [g2.m, vI x7.bytes] :: Bk b0_ 96 [vI a0.c.Policy, vI a0.c.Entries, vI a0.c.Bytes, vW a0.c.Seed, pt b8 0, pv4, g6, vW a0.seq, vW a0.now, vW a0.version, vI a0.tally.Asked, vI a0.tally.Hits] :: OwS true 9 1 eS v13 r12 :: OwM vS api_Entry.v g2.m x7.m :: rO (policy_Policy.op g5) pv4 a0.p :: OwM vW store_last.v g6 a0.sessions :: OwS true 50 4 api_Entry.c g16 p15 :: F)) ?_ fun K19 => ?_
    · intro g16
      refine x_seq ?_
      refine c_seq ?_
      refine c_reg ?_
      refine r_u (o_mv rfl) ?_
      refine r_u (o_as rfl) ?_
      refine r_nil ?_
      refine x_seq ?_
      refine c_ret ?_
      refine ex_st (fun _ h => mv1 (mv3 h)) ?_
      refine ex_st (fun _ h => st_some (f := table_Table.op g2) (a := x7) (st_star_f (A := table_Table.fl b8 x7 g2) h)) ?_
      refine ex_st (fun _ h => st_back ho9 h) ?_
      obtain rfl := Option.some.inj hm18
      refine ex_st (fun _ h => st_pk 6 [5, 1, 0, 3, 4] (by decide) h) ?_
      exact x_r1 rfl (rv_t rfl) (Le.refl _) ⟨_, rfl, g16, rfl, rfl, rfl⟩
    · refine c_blk ?_
      refine cd_st (fun _ h => st_nil (ap := true) (T := 50) (sz := 4) (en := api_Entry.c) h) ?_
      refine cd_loopG (M := fun k23 (s : List api_Entry × Int × Value) => store_Store_Entries_l0 r12 x7 k23 s.1 s.2.1 = some p15) (Ef := fun (s : List api_Entry × Int × Value) => [(0, pt b0_ 0), (14, v13), (15, vI (r12.length : Int)), (3, s.2.2), (16, vI s.2.1)]) (Rf := fun (s : List api_Entry × Int × Value) => R) (Lf := fun (s : List api_Entry × Int × Value) => Bk b8 138 [g2.m, vI x7.bytes] :: Bk b0_ 96 [vI a0.c.Policy, vI a0.c.Entries, vI a0.c.Bytes, vW a0.c.Seed, pt b8 0, pv4, g6, vW a0.seq, vW a0.now, vW a0.version, vI a0.tally.Asked, vI a0.tally.Hits] :: OwS true 9 1 eS v13 r12 :: OwM vS api_Entry.v g2.m x7.m :: rO (policy_Policy.op g5) pv4 a0.p :: OwM vW store_last.v g6 a0.sessions :: OwS true 50 4 api_Entry.c s.2.2 s.1 :: F) (((r12.length : Int) - 0).toNat + 1) ([], 0, .slice none 0 0) hp17 ⟨rfl, rfl, rfl, rfl, rfl, trivial⟩ (fun _ h => st_pk 7 [2, 4, 1, 3, 5, 6, 0] (by decide) h) (fun _ h => by cases h) fun k23 s hM25 => ?_
      obtain ⟨out_20, s_21, g22⟩ := s
      have hm24 : store_Store_Entries_l0 r12 x7 (k23 + 1) out_20 s_21 = some p15 := hM25
      rw [store_Store_Entries_l0] at hm24
      refine c_seq ?_
      refine c_reg ?_
      refine r_u (o_bin rfl rfl (bI_lt s_21 (r12.length : Int))) ?_
      refine r_nil ?_
      refine x_seq ?_
      refine c_seq ?_
      refine c_if (b := decide (s_21 < (r12.length : Int))) rfl (fun h26 => ?_) fun h26 => ?_
      · have hm27 := ift hm24 h26
        clear hm24
        refine c_skip ?_
        refine x_seq ?_
        refine c_seq ?_
        refine c_blk ?_
        refine c_seq ?_
        refine c_reg ?_
        obtain ⟨x28, hx28, hm29⟩ := bs hm27
        clear hm27
        refine r_u (o_ixO 2 Tryz.underlying98 (fun _ => by kernel_rfl) rfl rfl rfl hx28) ?_
        refine r_u (o_ldO0 2 sc9 rfl rfl hx28 rfl rfl) ?_
        refine r_u (o_as rfl) ?_
        refine r_nil ?_
        refine x_seq ?_
        refine c_seq ?_
        refine c_reg ?_
        refine r_u (o_mv rfl) ?_
        refine r_u (o_nc rfl) ?_
        refine r_u (o_fa fa96_1 rfl) ?_
        refine r_u (o_ld 1 sc92 rfl rfl rfl) ?_
        refine r_u (o_mv rfl) ?_
        obtain ⟨r30, hr30, hm31⟩ := ltx hm29
        clear hm29
        refine rl_st (fun _ h => mv1 (mv3 h)) ?_
        refine r_c (s_w (o_call ca40 rfl (table_Table_Get.ok b8 x7 g2 x28 r30 hr30))) ?_
        refine r_u (o_mv rfl) ?_
        refine r_u (o_ext rfl rfl) ?_
        refine r_u (o_ext rfl rfl) ?_
        refine r_new (o_al ze50) fun b32 => ?_
        refine r_u0 (o_stn ag50 rfl rfl rfl rfl rfl rfl rfl) ?_
        refine r_u (o_as rfl) ?_
        refine r_nil ?_
        refine x_seq ?_
        refine c_reg ?_
        refine r_u (o_mv rfl) ?_
        refine r_u (o_ldn 0 (api_Entry.c r30.1) ag50 rfl rfl rfl rfl) ?_
        refine r_sw (s_w (o_bsl (en := api_Entry.c) (sz := 4) (e := 50) (cs := [vS r30.1.Key, vS r30.1.Value, vW r30.1.Version, vW r30.1.End]) (r := [r30.1]) rfl (fun _ => by kernel_rfl) rfl (by decide) rfl (fun _ => rfl))) ?_
        rintro v33 R _ _ ⟨rfl, rfl⟩
        obtain ⟨l35, hl35, hm36⟩ := bs hm31
        clear hm31
        refine rl_st (fun _ h => mv8 h) ?_
        refine r_sw (s_w (o_ap (sz := 4) (bytes := 48) 0 Tryz.underlying44 rfl rfl rfl rfl rfl (by decide) (by decide) (fun _ _ _ h => by simp [api_Entry.c] at h; rcases h with rfl | rfl | rfl | rfl <;> rfl) (fun _ => rfl) rfl rfl rfl rfl (Nat.succ_pos _) hl35)) ?_
        rintro v34 R _ _ ⟨rfl, rfl⟩
        refine r_u (o_as rfl) ?_
        refine r_nil ?_
        refine x_blk ?_
        refine x_seq ?_
        refine c_reg ?_
        refine r_u (o_bin rfl rfl (bI_add s_21 1)) ?_
        refine r_u (o_mv rfl) ?_
        refine r_nil ?_
        exact x_lp (l35, i64 (s_21 + 1), v34) hm36 ⟨rfl, rfl, rfl, rfl, rfl, trivial⟩ (fun _ h => st_pk 9 [3, 5, 6, 4, 7, 8, 0] (by decide) h)
      · have hm27 := iff_ hm24 h26
        clear hm24
        refine c_exit (x_exit (ks' := _) rfl ?_)
        obtain rfl := Option.some.inj hm27
        exact x_sub (K19 g22) ⟨rfl, trivial⟩ (fun _ h => st_pk 7 [0, 1, 2, 3, 4, 5, 6] (by decide) h)

def hawthornlaw12_awake  : Option Bool :=
  (store_New (⟨1, 2, 100, 0⟩ : api_Config)).bind fun r0 => om r0.1 (none) fun x5 => (store_Store_Apply x5 (⟨1, 0, 1, 1, (⟨2, [107], [118], 0, 0⟩ : api_Op)⟩ : api_Record)).bind fun r16 => (store_Store_Apply r16.2.2 (⟨2, 0, 1, 2, (⟨1, [107], [], 0, 0⟩ : api_Op)⟩ : api_Record)).bind fun r27 => if (((((r0.2 == 0) && (r16.2.1 == 0)) && (r27.2.1 == 0)) && (r16.1.Version == 1)) && (r27.1.Value == [118])) then if ((store_Store_Seq r27.2.2) == 2) then (store_Store_Entries r27.2.2).bind fun r42 => some ((r42.length : Int) == 1) else some false else some false
theorem hawthornlaw12_awake.ok {G R F} (r : Bool) (hm : hawthornlaw12_awake = some r) : CO Tryz.prog 12 [] G R (F)
    (Ret fun u R' L' => u = vB r ∧ R' = R ∧ L' = F) := by
  unfold hawthornlaw12_awake at hm
  refine co_ofN (N := 57) Tryz.func12 rfl rfl ?_
  refine c_seq ?_
  refine c_reg ?_
  refine r_u (o_as rfl) ?_
  refine r_nil ?_
  refine x_seq ?_
  refine c_seq ?_
  refine c_reg ?_
  refine r_u (o_bld [vI 1, vI 2, vI 100, vW 0] rfl (fun _ => by kernel_rfl)) ?_
  obtain ⟨r0, hr0, hm4⟩ := bs hm
  clear hm
  refine r_sw (s_w (o_call ca19 rfl (store_New.ok (⟨1, 2, 100, 0⟩ : api_Config) r0 hr0))) ?_
  rintro _ R _ _ ⟨⟨pv2, g3⟩, rfl, rfl, rfl⟩
  refine r_u (o_mv rfl) ?_
  refine r_u (o_ext rfl rfl) ?_
  refine r_u (o_ext rfl rfl) ?_
  refine r_u (o_as rfl) ?_
  refine r_u (o_as rfl) ?_
  refine r_nil ?_
  refine x_seq ?_
  refine c_seq ?_
  refine cd_opt (fun ho7 => ?_) (fun x5 b6 ho7 => ?_)
  · rintro rfl
    have hm8 := om_n hm4 ho7
    clear hm4
    cases hm8
  · rintro rfl
    have hm8 := om_s hm4 ho7
    clear hm4
    obtain ⟨⟨pv10, g11⟩, ⟨pv13, g14⟩, g15⟩ := g3
    refine cd_st (fun _ h => st_star_o h) ?_
    refine c_reg ?_
    refine r_u (o_mv rfl) ?_
    refine r_u (o_bld [vI 2, vS [107], vS [118], vW 0, vW 0] rfl (fun _ => by kernel_rfl)) ?_
    refine r_u (o_bld [vW 1, vW 0, vW 1, vW 1, vI 2, vS [107], vS [118], vW 0, vW 0] rfl (fun _ => by kernel_rfl)) ?_
    obtain ⟨r16, hr16, hm25⟩ := bs hm8
    clear hm8
    refine r_sw (s_w (o_call ca15 rfl (store_Store_Apply.ok b6 x5 (⟨(pv10, g11), (pv13, g14), g15⟩ : store_Store.G) (⟨1, 0, 1, 1, (⟨2, [107], [118], 0, 0⟩ : api_Op)⟩ : api_Record) r16 hr16))) ?_
    rintro _ R _ _ ⟨⟨⟨pv19, g20⟩, ⟨pv22, g23⟩, g24⟩, rfl, rfl, rfl⟩
    refine r_u (o_mv rfl) ?_
    refine r_u (o_ext rfl rfl) ?_
    refine r_u (o_ext rfl rfl) ?_
    refine r_new (o_al ze41) fun b26 => ?_
    refine r_u0 (o_stn ag41 rfl rfl rfl rfl rfl rfl rfl) ?_
    refine r_u (o_as rfl) ?_
    refine r_nil ?_
    refine x_seq ?_
    refine c_seq ?_
    refine c_reg ?_
    refine r_u (o_mv rfl) ?_
    refine r_u (o_bld [vI 1, vS [107], vS [], vW 0, vW 0] rfl (fun _ => by kernel_rfl)) ?_
    refine r_u (o_bld [vW 2, vW 0, vW 1, vW 2, vI 1, vS [107], vS [], vW 0, vW 0] rfl (fun _ => by kernel_rfl)) ?_
    obtain ⟨r27, hr27, hm36⟩ := bs hm25
    clear hm25
    refine rl_st (fun _ h => mv4 (mv4 (mv4 (mv4 h)))) ?_
    refine r_sw (s_w (o_call ca15 rfl (store_Store_Apply.ok b6 r16.2.2 (⟨(pv19, g20), (pv22, g23), g24⟩ : store_Store.G) (⟨2, 0, 1, 2, (⟨1, [107], [], 0, 0⟩ : api_Op)⟩ : api_Record) r27 hr27))) ?_
    rintro _ R _ _ ⟨⟨⟨pv30, g31⟩, ⟨pv33, g34⟩, g35⟩, rfl, rfl, rfl⟩
    refine r_u (o_mv rfl) ?_
    refine r_u (o_ext rfl rfl) ?_
    refine r_u (o_ext rfl rfl) ?_
    refine r_new (o_al ze41) fun b37 => ?_
    refine r_u0 (o_stn ag41 rfl rfl rfl rfl rfl rfl rfl) ?_
    refine r_u (o_as rfl) ?_
    refine r_nil ?_
    refine x_seq ?_
    refine c_seq ?_
    refine cd_by (((((r0.2 == 0) && (r16.2.1 == 0)) && (r27.2.1 == 0)) && (r16.1.Version == 1)) && (r27.1.Value == [118])) (fun h38 => ?_) fun h38 => ?_
    · have hm39 := ift hm36 h38
      clear hm36
      refine cd_by ((store_Store_Seq r27.2.2) == 2) (fun h40 => ?_) fun h40 => ?_
      · have hm41 := ift hm39 h40
        clear hm39
        refine c_reg ?_
        refine r_u (o_mv rfl) ?_
        refine r_u (o_bin rfl rfl (bI_eq r0.2 0)) ?_
        refine r_u (o_mv rfl) ?_
        refine r_s (s_gt rfl rfl fun g => o_mv rfl) ?_
        refine r_s (s_gt rfl rfl fun g => o_bin (evg rfl g) rfl (bI_eq r16.2.1 0)) ?_
        refine r_u (o_and rfl rfl) ?_
        refine r_u (o_mv rfl) ?_
        refine r_s (s_gt rfl rfl fun g => o_mv rfl) ?_
        refine r_s (s_gt rfl rfl fun g => o_bin (evg rfl g) rfl (bI_eq r27.2.1 0)) ?_
        refine r_u (o_and rfl rfl) ?_
        refine r_u (o_mv rfl) ?_
        refine r_s (s_gt rfl rfl fun g => o_fa fa41_2 rfl) ?_
        refine r_s (s_gt rfl rfl fun g => o_ld 5 sc22 (evg rfl g) rfl rfl) ?_
        refine r_s (s_gt rfl rfl fun g => o_bin (evg rfl g) rfl (bW_eq r16.1.Version 1)) ?_
        refine r_u (o_and rfl rfl) ?_
        refine r_u (o_mv rfl) ?_
        refine r_s (s_gt rfl rfl fun g => o_fa fa41_1 rfl) ?_
        refine r_s (s_gt rfl rfl fun g => o_ld 0 sc9 (evg rfl g) rfl rfl) ?_
        refine r_s (s_gt rfl rfl fun g => o_bin (evg rfl g) rfl (bS_eq r27.1.Value [118])) ?_
        refine r_u (o_and rfl rfl) ?_
        refine r_u (o_mv rfl) ?_
        refine r_s (s_y rfl rfl h38 (o_mv rfl)) ?_
        refine rl_st (fun _ h => mv4 (mv4 (mv4 (mv4 h)))) ?_
        refine r_c (s_yw rfl rfl h38 (o_call ca14 rfl (store_Store_Seq.ok b6 r27.2.2 (⟨(pv30, g31), (pv33, g34), g35⟩ : store_Store.G) _ rfl))) ?_
        refine r_s (s_y rfl rfl h38 (o_bin rfl rfl (bW_eq (store_Store_Seq r27.2.2) 2))) ?_
        refine r_u (o_pt rfl h38 rfl) ?_
        refine r_u (o_mv rfl) ?_
        refine r_s (s_y rfl rfl h40 (o_mv rfl)) ?_
        obtain ⟨r42, hr42, hm44⟩ := bs hm41
        clear hm41
        refine r_sw (s_yw rfl rfl h40 (o_call ca16 rfl (store_Store_Entries.ok b6 r27.2.2 (⟨(pv30, g31), (pv33, g34), g35⟩ : store_Store.G) r42 hr42))) ?_
        rintro v43 R _ _ ⟨_, rfl, rfl, rfl⟩
        refine r_s (s_y rfl rfl h40 (o_lenO 0 Tryz.underlying44 rfl rfl)) ?_
        refine r_s (s_y rfl rfl h40 (o_bin rfl rfl (bI_eq (r42.length : Int) 1))) ?_
        refine r_u (o_pt rfl h40 rfl) ?_
        refine r_u (o_as rfl) ?_
        refine r_nil ?_
        refine x_seq ?_
        refine c_ret ?_
        obtain rfl := Option.some.inj hm44
        refine ex_st (fun _ h => st_pk 7 [] (by decide) h) ?_
        exact x_r1 rfl (rv_t rfl) (Le.refl _) ⟨_, rfl, rfl, rfl, rfl⟩
      · have hm41 := iff_ hm39 h40
        clear hm39
        refine c_reg ?_
        refine r_u (o_mv rfl) ?_
        refine r_u (o_bin rfl rfl (bI_eq r0.2 0)) ?_
        refine r_u (o_mv rfl) ?_
        refine r_s (s_gt rfl rfl fun g => o_mv rfl) ?_
        refine r_s (s_gt rfl rfl fun g => o_bin (evg rfl g) rfl (bI_eq r16.2.1 0)) ?_
        refine r_u (o_and rfl rfl) ?_
        refine r_u (o_mv rfl) ?_
        refine r_s (s_gt rfl rfl fun g => o_mv rfl) ?_
        refine r_s (s_gt rfl rfl fun g => o_bin (evg rfl g) rfl (bI_eq r27.2.1 0)) ?_
        refine r_u (o_and rfl rfl) ?_
        refine r_u (o_mv rfl) ?_
        refine r_s (s_gt rfl rfl fun g => o_fa fa41_2 rfl) ?_
        refine r_s (s_gt rfl rfl fun g => o_ld 5 sc22 (evg rfl g) rfl rfl) ?_
        refine r_s (s_gt rfl rfl fun g => o_bin (evg rfl g) rfl (bW_eq r16.1.Version 1)) ?_
        refine r_u (o_and rfl rfl) ?_
        refine r_u (o_mv rfl) ?_
        refine r_s (s_gt rfl rfl fun g => o_fa fa41_1 rfl) ?_
        refine r_s (s_gt rfl rfl fun g => o_ld 0 sc9 (evg rfl g) rfl rfl) ?_
        refine r_s (s_gt rfl rfl fun g => o_bin (evg rfl g) rfl (bS_eq r27.1.Value [118])) ?_
        refine r_u (o_and rfl rfl) ?_
        refine r_u (o_mv rfl) ?_
        refine r_s (s_y rfl rfl h38 (o_mv rfl)) ?_
        refine rl_st (fun _ h => mv4 (mv4 (mv4 (mv4 h)))) ?_
        refine r_c (s_yw rfl rfl h38 (o_call ca14 rfl (store_Store_Seq.ok b6 r27.2.2 (⟨(pv30, g31), (pv33, g34), g35⟩ : store_Store.G) _ rfl))) ?_
        refine r_s (s_y rfl rfl h38 (o_bin rfl rfl (bW_eq (store_Store_Seq r27.2.2) 2))) ?_
        refine r_u (o_pt rfl h38 rfl) ?_
        refine r_u (o_mv rfl) ?_
        refine r_s (s_n rfl rfl h40) ?_
        refine r_s (s_n rfl rfl h40) ?_
        refine r_s (s_n rfl rfl h40) ?_
        refine r_s (s_n rfl rfl h40) ?_
        refine r_u (o_pf rfl h40 rfl) ?_
        refine r_u (o_as rfl) ?_
        refine r_nil ?_
        refine x_seq ?_
        refine c_ret ?_
        obtain rfl := Option.some.inj hm41
        refine ex_st (fun _ h => st_pk 6 [] (by decide) h) ?_
        exact x_r1 rfl (rv_t rfl) (Le.refl _) ⟨_, rfl, rfl, rfl, rfl⟩
    · have hm39 := iff_ hm36 h38
      clear hm36
      refine c_reg ?_
      refine r_u (o_mv rfl) ?_
      refine r_u (o_bin rfl rfl (bI_eq r0.2 0)) ?_
      refine r_u (o_mv rfl) ?_
      refine r_s (s_gt rfl rfl fun g => o_mv rfl) ?_
      refine r_s (s_gt rfl rfl fun g => o_bin (evg rfl g) rfl (bI_eq r16.2.1 0)) ?_
      refine r_u (o_and rfl rfl) ?_
      refine r_u (o_mv rfl) ?_
      refine r_s (s_gt rfl rfl fun g => o_mv rfl) ?_
      refine r_s (s_gt rfl rfl fun g => o_bin (evg rfl g) rfl (bI_eq r27.2.1 0)) ?_
      refine r_u (o_and rfl rfl) ?_
      refine r_u (o_mv rfl) ?_
      refine r_s (s_gt rfl rfl fun g => o_fa fa41_2 rfl) ?_
      refine r_s (s_gt rfl rfl fun g => o_ld 5 sc22 (evg rfl g) rfl rfl) ?_
      refine r_s (s_gt rfl rfl fun g => o_bin (evg rfl g) rfl (bW_eq r16.1.Version 1)) ?_
      refine r_u (o_and rfl rfl) ?_
      refine r_u (o_mv rfl) ?_
      refine r_s (s_gt rfl rfl fun g => o_fa fa41_1 rfl) ?_
      refine r_s (s_gt rfl rfl fun g => o_ld 0 sc9 (evg rfl g) rfl rfl) ?_
      refine r_s (s_gt rfl rfl fun g => o_bin (evg rfl g) rfl (bS_eq r27.1.Value [118])) ?_
      refine r_u (o_and rfl rfl) ?_
      refine r_u (o_mv rfl) ?_
      refine r_s (s_n rfl rfl h38) ?_
      refine r_s (s_n rfl rfl h38) ?_
      refine r_s (s_n rfl rfl h38) ?_
      refine r_u (o_pf rfl h38 rfl) ?_
      refine r_u (o_mv rfl) ?_
      refine r_s (s_n rfl rfl rfl) ?_
      refine r_s (s_n rfl rfl rfl) ?_
      refine r_s (s_n rfl rfl rfl) ?_
      refine r_s (s_n rfl rfl rfl) ?_
      refine r_u (o_pf rfl rfl rfl) ?_
      refine r_u (o_as rfl) ?_
      refine r_nil ?_
      refine x_seq ?_
      refine c_ret ?_
      obtain rfl := Option.some.inj hm39
      refine ex_st (fun _ h => st_pk 6 [] (by decide) h) ?_
      exact x_r1 rfl (rv_t rfl) (Le.refl _) ⟨_, rfl, rfl, rfl, rfl⟩

def store_Store_Tally (a0 : store_Store) : api_Tally :=
  a0.tally
theorem store_Store_Tally.ok {G R F} (b0_ : Nat) (a0 : store_Store) (g0_ : store_Store.G) (r : api_Tally) (hm : store_Store_Tally a0 = r) : CO Tryz.prog 17 [pt b0_ 0] G R (Bk b0_ 96 [vI a0.c.Policy, vI a0.c.Entries, vI a0.c.Bytes, vW a0.c.Seed, g0_.t.1, g0_.p.1, g0_.sessions, vW a0.seq, vW a0.now, vW a0.version, vI a0.tally.Asked, vI a0.tally.Hits] :: rO (table_Table.op g0_.t.2) g0_.t.1 a0.t :: rO (policy_Policy.op g0_.p.2) g0_.p.1 a0.p :: OwM vW store_last.v g0_.sessions a0.sessions :: F)
    (Ret fun u R' L' => u = .agg (api_Tally.c r).toArray ∧ R' = R ∧ L' = Bk b0_ 96 [vI a0.c.Policy, vI a0.c.Entries, vI a0.c.Bytes, vW a0.c.Seed, g0_.t.1, g0_.p.1, g0_.sessions, vW a0.seq, vW a0.now, vW a0.version, vI a0.tally.Asked, vI a0.tally.Hits] :: rO (table_Table.op g0_.t.2) g0_.t.1 a0.t :: rO (policy_Policy.op g0_.p.2) g0_.p.1 a0.p :: OwM vW store_last.v g0_.sessions a0.sessions :: F) := by
  obtain ⟨⟨pv1, g2⟩, ⟨pv4, g5⟩, g6⟩ := g0_
  unfold store_Store_Tally at hm
  refine co_ofN (N := 10) Tryz.func17 rfl rfl ?_
  refine c_seq ?_
  refine c_reg ?_
  refine r_new (o_al ze47) fun b7 => ?_
  refine r_nil ?_
  refine x_seq ?_
  refine c_seq ?_
  refine c_seq ?_
  refine c_reg ?_
  refine r_u (o_mv rfl) ?_
  refine r_u (o_bin rfl rfl (bP_eqp Tryz.underlying30)) ?_
  refine r_nil ?_
  refine x_seq ?_
  refine c_ff rfl ?_
  refine c_skip ?_
  refine x_seq ?_
  refine c_seq ?_
  refine c_reg ?_
  refine r_u (o_mv rfl) ?_
  refine r_u (o_nc rfl) ?_
  refine r_u (o_fa fa96_7 rfl) ?_
  refine r_u (o_ldn 1 (api_Tally.c a0.tally) ag47 rfl rfl rfl rfl) ?_
  refine r_u0 (o_stn ag47 rfl rfl rfl rfl rfl rfl rfl) ?_
  refine r_nil ?_
  refine x_seq ?_
  refine c_ret ?_
  subst hm
  exact x_d1 rfl (rv_n 0 (api_Tally.c a0.tally) ag47 rfl rfl rfl rfl) (fun _ h => st_pk 5 [1, 2, 3, 4] (by decide) h) (Le.refl _) ⟨_, rfl, rfl, rfl, rfl⟩

def hawthornlaw12_StoreOnce_l0 (r38 : List api_Entry) (r64 : List api_Entry) : Nat → Int → Option (Unit ⊕ Bool)
  | 0, _ => none
  | k79 + 1, i_78 => if decide (i_78 < (r38.length : Int)) then (gi r38 i_78).bind fun x84 => (gi r64 i_78).bind fun x86 => if !(decide (x84 = x86)) then some (Sum.inr false) else hawthornlaw12_StoreOnce_l0 r38 r64 k79 (i64 (i_78 + 1)) else some (Sum.inl ())
def hawthornlaw12_StoreOnce (a0 : api_Config) (a1 : List hawthornlaw12_Act) (a2 : hawthornlaw12_Act) : Option Bool :=
  (hawthornlaw12_played a0 a1).bind fun r2 => (hawthornlaw12_awake).bind fun r7 => if (!r7 || !r2.2.2) then some false else om r2.1 (none) fun x11 => (hawthornlaw12_record (store_Store_Seq x11) r2.2.1 a2).bind fun r22 => (store_Store_Apply x11 (⟨(store_Store_Seq x11) + 1, r22.1.Now, r22.1.Session, 40, r22.1.Op⟩ : api_Record)).bind fun r25 => if (((r25.2.1 != 0) || (r22.1.Op.Kind == 5)) || (r25.1.E == 3)) then some true else (store_Store_Entries r25.2.2).bind fun r38 => (store_Store_Apply r25.2.2 (⟨((store_Store_Seq x11) + 1) + 1, r22.1.Now, r22.1.Session, 40, r22.1.Op⟩ : api_Record)).bind fun r42 => (store_Store_Apply r42.2.2 (⟨(((store_Store_Seq x11) + 1) + 1) + 1, r22.1.Now, r22.1.Session, 39, r22.1.Op⟩ : api_Record)).bind fun r53 => (store_Store_Entries r53.2.2).bind fun r64 => Option.bind (if ((((r42.2.1 != 0) || (r53.2.1 != 0)) || !(decide (r42.1 = r25.1))) || (r53.1.E != 122)) then some true else some (!(decide ((store_Store_Tally r53.2.2) = (store_Store_Tally r25.2.2))) || ((r38.length : Int) != (r64.length : Int)))) fun p67 => if p67 then some false else Option.bind (hawthornlaw12_StoreOnce_l0 r38 r64 (((r38.length : Int) - 0).toNat + 1) 0) fun (p73 : Unit ⊕ Bool) => (match p73 with | Sum.inl q74 => some true | Sum.inr r => some r)
theorem hawthornlaw12_StoreOnce.ok {G R F} (a0 : api_Config) (v1_ : Value) (a1 : List hawthornlaw12_Act) (h1_ : RoS R v1_ 9 hawthornlaw12_Act.c a1) (a2 : hawthornlaw12_Act) (r : Bool) (hm : hawthornlaw12_StoreOnce a0 a1 a2 = some r) : CO Tryz.prog 3 [.agg (api_Config.c a0).toArray, v1_, .agg (hawthornlaw12_Act.c a2).toArray] G R (F)
    (Ret fun u R' L' => u = vB r ∧ R' = R ∧ L' = F) := by
  unfold hawthornlaw12_StoreOnce at hm
  refine co_ofN (N := 138) Tryz.func3 rfl rfl ?_
  refine c_seq ?_
  refine c_reg ?_
  refine r_new (o_bx (api_Config.c a0) rfl rfl) fun b0 => ?_
  refine r_new (o_bx (hawthornlaw12_Act.c a2) rfl rfl) fun b1 => ?_
  refine r_u (o_as rfl) ?_
  refine r_nil ?_
  refine x_seq ?_
  refine c_seq ?_
  refine c_reg ?_
  refine r_u (o_ldn 1 (api_Config.c a0) ag24 rfl rfl rfl rfl) ?_
  refine r_u (o_mv rfl) ?_
  obtain ⟨r2, hr2, hm6⟩ := bs hm
  clear hm
  refine r_sw (s_w (o_call ca11 rfl (hawthornlaw12_played.ok a0 v1_ a1 h1_ r2 hr2))) ?_
  rintro _ R _ _ ⟨⟨pv4, g5⟩, rfl, rfl, rfl⟩
  refine r_u (o_mv rfl) ?_
  refine r_u (o_ext rfl rfl) ?_
  refine r_u (o_ext rfl rfl) ?_
  refine r_u (o_ext rfl rfl) ?_
  refine r_u (o_as rfl) ?_
  refine r_u (o_as rfl) ?_
  refine r_u (o_as rfl) ?_
  refine r_nil ?_
  refine x_seq ?_
  refine c_seq ?_
  refine c_seq ?_
  refine c_reg ?_
  obtain ⟨r7, hr7, hm8⟩ := bs hm6
  clear hm6
  refine r_u (o_callq ca12 rfl (hawthornlaw12_awake.ok r7 hr7)) ?_
  refine r_u (o_not rfl) ?_
  refine r_u (o_mv rfl) ?_
  refine r_s (s_gf rfl rfl fun g => o_mv rfl) ?_
  refine r_s (s_gf rfl rfl fun g => o_not (evg rfl g)) ?_
  refine r_u (o_or rfl rfl) ?_
  refine r_nil ?_
  refine x_seq ?_
  refine c_if (b := (!r7 || !r2.2.2)) rfl (fun h9 => ?_) fun h9 => ?_
  · have hm10 := ift hm8 h9
    clear hm8
    refine c_seq ?_
    refine c_reg ?_
    refine r_u (o_as rfl) ?_
    refine r_nil ?_
    refine x_seq ?_
    refine c_ret ?_
    obtain rfl := Option.some.inj hm10
    refine ex_st (fun _ h => st_pk 3 [] (by decide) h) ?_
    exact x_r1 rfl (rv_t rfl) (Le.refl _) ⟨_, rfl, rfl, rfl, rfl⟩
  · have hm10 := iff_ hm8 h9
    clear hm8
    refine c_skip ?_
    refine x_seq ?_
    refine c_seq ?_
    refine cd_opt (fun ho13 => ?_) (fun x11 b12 ho13 => ?_)
    · rintro rfl
      have hm14 := om_n hm10 ho13
      clear hm10
      cases hm14
    · rintro rfl
      have hm14 := om_s hm10 ho13
      clear hm10
      obtain ⟨⟨pv16, g17⟩, ⟨pv19, g20⟩, g21⟩ := g5
      refine cd_st (fun _ h => st_star_o h) ?_
      obtain ⟨r22, hr22, hm23⟩ := bs hm14
      clear hm14
      refine c_any mixed (effs := [8, 9]) (V := []) ?_
      refine stage_ext [(0, pt b12 0), (1, vW (store_Store_Seq x11)), (2, vW r2.2.1), (3, .agg (hawthornlaw12_Act.c a2).toArray), (4, .tuple #[.agg (api_Record.c r22.1).toArray, vW r22.2]), (5, .tuple #[.agg (api_Record.c r22.1).toArray, vW r22.2]), (6, .agg (api_Record.c r22.1).toArray), (7, vW r22.2)] rfl ?_
      refine stage rfl rfl rfl rfl [0, 1, 0, 0, 15, 31, 63, 63, 0, 383, 1023] [0, 1, 2, 3, 4, 5, 6, 7] [8] rfl rfl rfl (qc rfl rfl (s_u (o_mv rfl)) (qc rfl rfl (s_u (o_callqP ca14 rfl (store_Store_Seq.ok b12 x11 (⟨(pv16, g17), (pv19, g20), g21⟩ : store_Store.G) _ rfl) (fun _ h => st_pk 6 [0, 1, 2, 3, 4, 5] (by decide) h) (fun _ h => st_pk 6 [0, 1, 2, 3, 4, 5] (by decide) h))) (qc rfl rfl (s_u (o_mv rfl)) (qc rfl rfl (s_u (o_ldn 4 (hawthornlaw12_Act.c a2) ag29 rfl rfl rfl rfl)) (qc rfl rfl (s_u (o_callq ca13 rfl (hawthornlaw12_record.ok (store_Store_Seq x11) r2.2.1 a2 r22 hr22))) (qc rfl rfl (s_u (o_mv rfl)) (qc rfl rfl (s_u (o_ext rfl rfl)) (qc rfl rfl (s_u (o_ext rfl rfl)) qn)))))))) ?_ (fun h => absurd h (by decide))
      refine ec (eo_n rfl (s_w (o_al ze35)) fun b24 => ?_) en
      refine stage rfl rfl rfl rfl [0, 1, 0, 0, 15, 31, 63, 63, 0, 383, 1023] [0, 1, 2, 3, 4, 5, 6, 7] [9] rfl rfl rfl (qc rfl rfl (s_u (o_mv rfl)) (qc rfl rfl (s_u (o_callqP ca14 rfl (store_Store_Seq.ok b12 x11 (⟨(pv16, g17), (pv19, g20), g21⟩ : store_Store.G) _ rfl) (fun _ h => st_pk 7 [1, 2, 3, 4, 0, 5, 6] (by decide) h) (fun _ h => st_pk 7 [4, 0, 1, 2, 3, 5, 6] (by decide) h))) (qc rfl rfl (s_u (o_mv rfl)) (qc rfl rfl (s_u (o_ldn 5 (hawthornlaw12_Act.c a2) ag29 rfl rfl rfl rfl)) (qc rfl rfl (s_u (o_callq ca13 rfl (hawthornlaw12_record.ok (store_Store_Seq x11) r2.2.1 a2 r22 hr22))) (qc rfl rfl (s_u (o_mv rfl)) (qc rfl rfl (s_u (o_ext rfl rfl)) (qc rfl rfl (s_u (o_ext rfl rfl)) qn)))))))) ?_ (fun h => absurd h (by decide))
      refine ec (eo_u rfl (s_u (o_stn ag35 rfl rfl rfl rfl rfl rfl rfl)) (Le.refl _) ?_) en
      refine stage_ext [(10, vW r22.2)] rfl ?_
      refine stage rfl rfl rfl rfl [0, 1, 0, 0, 15, 31, 63, 63, 0, 383, 1023] [7, 10] [] rfl rfl rfl (qc rfl rfl (s_u (o_ext rfl rfl)) (qc rfl rfl (s_u (o_as rfl)) qn)) en ?_
      intro _
      refine ex_sub (E' := [(7, pt b12 0), (10, pt b24 0)]) ⟨rfl, rfl, trivial⟩ ?_
      refine x_seq ?_
      refine c_seq ?_
      refine c_reg ?_
      refine r_u (o_mv rfl) ?_
      refine rl_st (fun _ h => mv4 (mv4 (mv4 (mv4 h)))) ?_
      refine r_c (s_w (o_call ca14 rfl (store_Store_Seq.ok b12 x11 (⟨(pv16, g17), (pv19, g20), g21⟩ : store_Store.G) _ rfl))) ?_
      refine r_u (o_bin rfl rfl (bW_add (store_Store_Seq x11) 1)) ?_
      refine r_u (o_fa fa35_0 rfl) ?_
      refine rl_st (fun _ h => mv4 h) ?_
      refine r_u0 (o_st sc22 rfl rfl rfl rfl rfl rfl) ?_
      refine r_u (o_fa fa35_3 rfl) ?_
      refine r_u0 (o_st sc22 rfl rfl rfl rfl rfl rfl) ?_
      refine r_nil ?_
      refine x_seq ?_
      refine c_seq ?_
      refine c_reg ?_
      refine r_u (o_mv rfl) ?_
      refine r_u (o_ldn 0 [vW ((store_Store_Seq x11) + 1), vW r22.1.Now, vW r22.1.Session, vW 40, vI r22.1.Op.Kind, vS r22.1.Op.Key, vS r22.1.Op.Value, vW r22.1.Op.TTL, vW r22.1.Op.Version] ag35 rfl rfl rfl rfl) ?_
      obtain ⟨r25, hr25, hm34⟩ := bs hm23
      clear hm23
      refine rl_st (fun _ h => mv4 (mv4 (mv4 (mv4 h)))) ?_
      refine r_sw (s_w (o_call ca15 rfl (store_Store_Apply.ok b12 x11 (⟨(pv16, g17), (pv19, g20), g21⟩ : store_Store.G) (⟨(store_Store_Seq x11) + 1, r22.1.Now, r22.1.Session, 40, r22.1.Op⟩ : api_Record) r25 hr25))) ?_
      rintro _ R _ _ ⟨⟨⟨pv28, g29⟩, ⟨pv31, g32⟩, g33⟩, rfl, rfl, rfl⟩
      refine r_u (o_mv rfl) ?_
      refine r_u (o_ext rfl rfl) ?_
      refine r_u (o_ext rfl rfl) ?_
      refine r_new (o_al ze41) fun b35 => ?_
      refine r_u0 (o_stn ag41 rfl rfl rfl rfl rfl rfl rfl) ?_
      refine r_u (o_as rfl) ?_
      refine r_nil ?_
      refine x_seq ?_
      refine c_seq ?_
      refine c_seq ?_
      refine c_reg ?_
      refine r_u (o_mv rfl) ?_
      refine r_u (o_bin rfl rfl (bI_ne r25.2.1 0)) ?_
      refine r_u (o_mv rfl) ?_
      refine r_s (s_gf rfl rfl fun g => o_fa fa35_4 rfl) ?_
      refine r_s (s_gf rfl rfl fun g => o_fa fa27_0 (evg rfl g)) ?_
      refine r_s (s_gf rfl rfl fun g => o_ld 5 sc3 (evg rfl g) rfl rfl) ?_
      refine r_s (s_gf rfl rfl fun g => o_bin (evg rfl g) rfl (bI_eq r22.1.Op.Kind 5)) ?_
      refine r_u (o_or rfl rfl) ?_
      refine r_u (o_mv rfl) ?_
      refine r_s (s_gf rfl rfl fun g => o_fa fa41_0 rfl) ?_
      refine r_s (s_gf rfl rfl fun g => o_ld 0 sc39 (evg rfl g) rfl rfl) ?_
      refine r_s (s_gf rfl rfl fun g => o_bin (evg rfl g) rfl (bI_eq r25.1.E 3)) ?_
      refine r_u (o_or rfl rfl) ?_
      refine r_nil ?_
      refine x_seq ?_
      refine c_if (b := (((r25.2.1 != 0) || (r22.1.Op.Kind == 5)) || (r25.1.E == 3))) rfl (fun h36 => ?_) fun h36 => ?_
      · have hm37 := ift hm34 h36
        clear hm34
        refine c_seq ?_
        refine c_reg ?_
        refine r_u (o_as rfl) ?_
        refine r_nil ?_
        refine x_seq ?_
        refine c_ret ?_
        obtain rfl := Option.some.inj hm37
        refine ex_st (fun _ h => st_pk 8 [] (by decide) h) ?_
        exact x_r1 rfl (rv_t rfl) (Le.refl _) ⟨_, rfl, rfl, rfl, rfl⟩
      · have hm37 := iff_ hm34 h36
        clear hm34
        refine c_skip ?_
        refine x_seq ?_
        refine c_seq ?_
        refine c_reg ?_
        refine r_u (o_mv rfl) ?_
        obtain ⟨r38, hr38, hm40⟩ := bs hm37
        clear hm37
        refine rl_st (fun _ h => mv4 (mv4 (mv4 (mv4 h)))) ?_
        refine r_sw (s_w (o_call ca16 rfl (store_Store_Entries.ok b12 r25.2.2 (⟨(pv28, g29), (pv31, g32), g33⟩ : store_Store.G) r38 hr38))) ?_
        rintro v39 R _ _ ⟨_, rfl, rfl, rfl⟩
        refine r_u (o_mv rfl) ?_
        refine rl_st (fun _ h => mv4 (mv4 (mv4 (mv4 h)))) ?_
        refine r_c (s_w (o_call ca17 rfl (store_Store_Tally.ok b12 r25.2.2 (⟨(pv28, g29), (pv31, g32), g33⟩ : store_Store.G) _ rfl))) ?_
        refine r_new (o_al ze47) fun b41 => ?_
        refine r_u (o_as rfl) ?_
        refine r_u0 (o_stn ag47 rfl rfl rfl rfl rfl rfl rfl) ?_
        refine r_nil ?_
        refine x_seq ?_
        refine c_seq ?_
        refine c_reg ?_
        refine r_u (o_fa fa35_0 rfl) ?_
        refine r_u (o_ld 7 sc22 rfl rfl rfl) ?_
        refine r_u (o_bin rfl rfl (bW_add ((store_Store_Seq x11) + 1) 1)) ?_
        refine r_u (o_fa fa35_0 rfl) ?_
        refine rl_st (fun _ h => mv7 h) ?_
        refine r_u0 (o_st sc22 rfl rfl rfl rfl rfl rfl) ?_
        refine r_nil ?_
        refine x_seq ?_
        refine c_seq ?_
        refine c_reg ?_
        refine r_u (o_mv rfl) ?_
        refine r_u (o_ldn 0 [vW (((store_Store_Seq x11) + 1) + 1), vW r22.1.Now, vW r22.1.Session, vW 40, vI r22.1.Op.Kind, vS r22.1.Op.Key, vS r22.1.Op.Value, vW r22.1.Op.TTL, vW r22.1.Op.Version] ag35 rfl rfl rfl rfl) ?_
        obtain ⟨r42, hr42, hm51⟩ := bs hm40
        clear hm40
        refine rl_st (fun _ h => mv5 (mv5 (mv5 (mv5 h)))) ?_
        refine r_sw (s_w (o_call ca15 rfl (store_Store_Apply.ok b12 r25.2.2 (⟨(pv28, g29), (pv31, g32), g33⟩ : store_Store.G) (⟨((store_Store_Seq x11) + 1) + 1, r22.1.Now, r22.1.Session, 40, r22.1.Op⟩ : api_Record) r42 hr42))) ?_
        rintro _ R _ _ ⟨⟨⟨pv45, g46⟩, ⟨pv48, g49⟩, g50⟩, rfl, rfl, rfl⟩
        refine r_u (o_mv rfl) ?_
        refine r_u (o_ext rfl rfl) ?_
        refine r_u (o_ext rfl rfl) ?_
        refine r_new (o_al ze41) fun b52 => ?_
        refine r_u0 (o_stn ag41 rfl rfl rfl rfl rfl rfl rfl) ?_
        refine r_u (o_as rfl) ?_
        refine r_nil ?_
        refine x_seq ?_
        refine c_seq ?_
        refine c_reg ?_
        refine r_u (o_fa fa35_0 rfl) ?_
        refine r_u (o_ld 5 sc22 rfl rfl rfl) ?_
        refine r_u (o_bin rfl rfl (bW_add (((store_Store_Seq x11) + 1) + 1) 1)) ?_
        refine r_u (o_fa fa35_0 rfl) ?_
        refine rl_st (fun _ h => mv5 h) ?_
        refine r_u0 (o_st sc22 rfl rfl rfl rfl rfl rfl) ?_
        refine r_u (o_fa fa35_3 rfl) ?_
        refine r_u0 (o_st sc22 rfl rfl rfl rfl rfl rfl) ?_
        refine r_nil ?_
        refine x_seq ?_
        refine c_seq ?_
        refine c_reg ?_
        refine r_u (o_mv rfl) ?_
        refine r_u (o_ldn 0 [vW ((((store_Store_Seq x11) + 1) + 1) + 1), vW r22.1.Now, vW r22.1.Session, vW 39, vI r22.1.Op.Kind, vS r22.1.Op.Key, vS r22.1.Op.Value, vW r22.1.Op.TTL, vW r22.1.Op.Version] ag35 rfl rfl rfl rfl) ?_
        obtain ⟨r53, hr53, hm62⟩ := bs hm51
        clear hm51
        refine rl_st (fun _ h => mv5 (mv5 (mv5 (mv5 h)))) ?_
        refine r_sw (s_w (o_call ca15 rfl (store_Store_Apply.ok b12 r42.2.2 (⟨(pv45, g46), (pv48, g49), g50⟩ : store_Store.G) (⟨(((store_Store_Seq x11) + 1) + 1) + 1, r22.1.Now, r22.1.Session, 39, r22.1.Op⟩ : api_Record) r53 hr53))) ?_
        rintro _ R _ _ ⟨⟨⟨pv56, g57⟩, ⟨pv59, g60⟩, g61⟩, rfl, rfl, rfl⟩
        refine r_u (o_mv rfl) ?_
        refine r_u (o_ext rfl rfl) ?_
        refine r_u (o_ext rfl rfl) ?_
        refine r_new (o_al ze41) fun b63 => ?_
        refine r_u0 (o_stn ag41 rfl rfl rfl rfl rfl rfl rfl) ?_
        refine r_u (o_as rfl) ?_
        refine r_nil ?_
        refine x_seq ?_
        refine c_seq ?_
        refine c_reg ?_
        refine r_u (o_mv rfl) ?_
        obtain ⟨r64, hr64, hm66⟩ := bs hm62
        clear hm62
        refine rl_st (fun _ h => mv4 (mv4 (mv4 (mv4 h)))) ?_
        refine r_sw (s_w (o_call ca16 rfl (store_Store_Entries.ok b12 r53.2.2 (⟨(pv56, g57), (pv59, g60), g61⟩ : store_Store.G) r64 hr64))) ?_
        rintro v65 R _ _ ⟨_, rfl, rfl, rfl⟩
        refine r_u (o_as rfl) ?_
        refine r_nil ?_
        refine x_seq ?_
        refine c_seq ?_
        refine c_seq ?_
        obtain ⟨p67, hp68, hm69⟩ := bs hm66
        refine cd_join (E' := [(14, v39), (20, v65), (122, vB p67)]) (L' := Bk b12 96 [vI r53.2.2.c.Policy, vI r53.2.2.c.Entries, vI r53.2.2.c.Bytes, vW r53.2.2.c.Seed, pv56, pv59, g61, vW r53.2.2.seq, vW r53.2.2.now, vW r53.2.2.version, vI r53.2.2.tally.Asked, vI r53.2.2.tally.Hits] :: Bk b63 41 (api_Reply.c r53.1) :: Bk b24 35 [vW ((((store_Store_Seq x11) + 1) + 1) + 1), vW r22.1.Now, vW r22.1.Session, vW 39, vI r22.1.Op.Kind, vS r22.1.Op.Key, vS r22.1.Op.Value, vW r22.1.Op.TTL, vW r22.1.Op.Version] :: Bk b52 41 (api_Reply.c r42.1) :: Bk b41 47 (api_Tally.c (store_Store_Tally r25.2.2)) :: Bk b35 41 (api_Reply.c r25.1) :: Bk b1 29 (hawthornlaw12_Act.c a2) :: Bk b0 24 (api_Config.c a0) :: OwS true 50 4 api_Entry.c v65 r64 :: rO (table_Table.op g57) pv56 r53.2.2.t :: rO (policy_Policy.op g60) pv59 r53.2.2.p :: OwM vW store_last.v g61 r53.2.2.sessions :: OwS true 50 4 api_Entry.c v39 r38 :: F) ?_ fun K70 => ?_
        · refine x_seq ?_
          refine c_if (b := p67) rfl (fun h71 => ?_) fun h71 => ?_
          · have hm72 := ift hm69 h71
            clear hm69
            refine c_seq ?_
            refine c_reg ?_
            refine r_u (o_as rfl) ?_
            refine r_nil ?_
            refine x_seq ?_
            refine c_ret ?_
            obtain rfl := Option.some.inj hm72
            refine ex_st (fun _ h => st_pk 13 [] (by decide) h) ?_
            exact x_r1 rfl (rv_t rfl) (Le.refl _) ⟨_, rfl, rfl, rfl, rfl⟩
          · have hm72 := iff_ hm69 h71
            clear hm69
            refine c_skip ?_
            refine x_seq ?_
            refine c_seq ?_
            refine c_seq ?_
            refine c_reg ?_
            refine r_u (o_as rfl) ?_
            refine r_nil ?_
            refine x_seq ?_
            obtain ⟨p73, hp75, hm76⟩ := bs hm72
            refine cd_joinS (p := p73) (Ef := fun q74 => []) (Lf := fun q74 => Bk b12 96 [vI r53.2.2.c.Policy, vI r53.2.2.c.Entries, vI r53.2.2.c.Bytes, vW r53.2.2.c.Seed, pv56, pv59, g61, vW r53.2.2.seq, vW r53.2.2.now, vW r53.2.2.version, vI r53.2.2.tally.Asked, vI r53.2.2.tally.Hits] :: Bk b63 41 (api_Reply.c r53.1) :: Bk b24 35 [vW ((((store_Store_Seq x11) + 1) + 1) + 1), vW r22.1.Now, vW r22.1.Session, vW 39, vI r22.1.Op.Kind, vS r22.1.Op.Key, vS r22.1.Op.Value, vW r22.1.Op.TTL, vW r22.1.Op.Version] :: Bk b52 41 (api_Reply.c r42.1) :: Bk b41 47 (api_Tally.c (store_Store_Tally r25.2.2)) :: Bk b35 41 (api_Reply.c r25.1) :: Bk b1 29 (hawthornlaw12_Act.c a2) :: Bk b0 24 (api_Config.c a0) :: OwS true 50 4 api_Entry.c v65 r64 :: rO (table_Table.op g57) pv56 r53.2.2.t :: rO (policy_Policy.op g60) pv59 r53.2.2.p :: OwM vW store_last.v g61 r53.2.2.sessions :: OwS true 50 4 api_Entry.c v39 r38 :: F) (fun q74 hq => ?_) fun K77 => ?_
            · subst hq
              try dsimp only at hm76
              refine x_seq ?_
              refine c_seq ?_
              refine c_reg ?_
              refine r_u (o_as rfl) ?_
              refine r_nil ?_
              refine x_seq ?_
              refine c_ret ?_
              obtain rfl := Option.some.inj hm76
              refine ex_st (fun _ h => st_pk 13 [] (by decide) h) ?_
              exact x_r1 rfl (rv_t rfl) (Le.refl _) ⟨_, rfl, rfl, rfl, rfl⟩
            · refine c_blk ?_
              refine cd_loop (M := fun k79 (i_78 : Int) => hawthornlaw12_StoreOnce_l0 r38 r64 k79 i_78 = some p73) (Ef := fun (i_78 : Int) => [(14, v39), (20, v65), (21, vI i_78)]) (Lf := fun (i_78 : Int) => Bk b12 96 [vI r53.2.2.c.Policy, vI r53.2.2.c.Entries, vI r53.2.2.c.Bytes, vW r53.2.2.c.Seed, pv56, pv59, g61, vW r53.2.2.seq, vW r53.2.2.now, vW r53.2.2.version, vI r53.2.2.tally.Asked, vI r53.2.2.tally.Hits] :: Bk b63 41 (api_Reply.c r53.1) :: Bk b24 35 [vW ((((store_Store_Seq x11) + 1) + 1) + 1), vW r22.1.Now, vW r22.1.Session, vW 39, vI r22.1.Op.Kind, vS r22.1.Op.Key, vS r22.1.Op.Value, vW r22.1.Op.TTL, vW r22.1.Op.Version] :: Bk b52 41 (api_Reply.c r42.1) :: Bk b41 47 (api_Tally.c (store_Store_Tally r25.2.2)) :: Bk b35 41 (api_Reply.c r25.1) :: Bk b1 29 (hawthornlaw12_Act.c a2) :: Bk b0 24 (api_Config.c a0) :: OwS true 50 4 api_Entry.c v65 r64 :: rO (table_Table.op g57) pv56 r53.2.2.t :: rO (policy_Policy.op g60) pv59 r53.2.2.p :: OwM vW store_last.v g61 r53.2.2.sessions :: OwS true 50 4 api_Entry.c v39 r38 :: F) (((r38.length : Int) - 0).toNat + 1) 0 hp75 ⟨rfl, rfl, rfl, trivial⟩ (fun _ h => h) (fun _ h => by cases h) fun k79 i_78 hM81 => ?_
              have hm80 : hawthornlaw12_StoreOnce_l0 r38 r64 (k79 + 1) i_78 = some p73 := hM81
              rw [hawthornlaw12_StoreOnce_l0] at hm80
              refine c_seq ?_
              refine c_seq ?_
              refine c_reg ?_
              refine r_u (o_mv rfl) ?_
              refine r_u (o_mv rfl) ?_
              refine r_u (o_lenO 12 Tryz.underlying44 rfl rfl) ?_
              refine r_u (o_bin rfl rfl (bI_lt i_78 (r38.length : Int))) ?_
              refine r_nil ?_
              refine x_seq ?_
              refine c_if (b := decide (i_78 < (r38.length : Int))) rfl (fun h82 => ?_) fun h82 => ?_
              · have hm83 := ift hm80 h82
                clear hm80
                refine c_skip ?_
                refine x_seq ?_
                refine c_seq ?_
                refine c_blk ?_
                refine c_seq ?_
                obtain ⟨x84, hx84, hm85⟩ := bs hm83
                clear hm83
                obtain ⟨x86, hx86, hm87⟩ := bs hm85
                clear hm85
                refine c_any mixed (effs := []) (V := []) ?_
                refine stage_ext [(0, v39), (1, vI i_78), (2, pt (sb v39) (so v39 + i_78.toNat * 4)), (3, .agg (api_Entry.c x84).toArray), (4, v65), (5, vI i_78), (6, pt (sb v65) (so v65 + i_78.toNat * 4)), (7, .agg (api_Entry.c x86).toArray), (8, vB (!(decide (x84 = x86))))] rfl ?_
                refine stage rfl rfl rfl rfl [0, 0, 3, 7, 0, 0, 48, 112, 255] [0, 1, 2, 3, 4, 5, 6, 7, 8] [] rfl rfl rfl (qc rfl rfl (s_u (o_mv rfl)) (qc rfl rfl (s_u (o_mv rfl)) (qc rfl rfl (s_u (o_ixO 12 Tryz.underlying44 (fun _ => by kernel_rfl) rfl rfl rfl hx84)) (qc rfl rfl (s_u (o_ldnO 12 ag50 rfl rfl hx84 rfl)) (qc rfl rfl (s_u (o_mv rfl)) (qc rfl rfl (s_u (o_mv rfl)) (qc rfl rfl (s_u (o_ixO 8 Tryz.underlying44 (fun _ => by kernel_rfl) rfl rfl rfl hx86)) (qc rfl rfl (s_u (o_ldnO 8 ag50 rfl rfl hx86 rfl)) (qc rfl rfl (s_u (o_bin rfl rfl (api_Entry.bne_50 x84 x86))) qn))))))))) en ?_
                intro _
                refine ex_sub (E' := [(14, v39), (20, v65), (21, vI i_78), (137, vB (!(decide (x84 = x86))))]) ⟨rfl, rfl, rfl, rfl, trivial⟩ ?_
                refine x_seq ?_
                refine c_if (b := !(decide (x84 = x86))) rfl (fun h88 => ?_) fun h88 => ?_
                · have hm89 := ift hm87 h88
                  clear hm87
                  refine c_seq ?_
                  refine c_reg ?_
                  refine r_u (o_as rfl) ?_
                  refine r_nil ?_
                  refine x_seq ?_
                  refine c_ret ?_
                  obtain rfl := Option.some.inj hm89
                  try dsimp only at hm76
                  obtain rfl := Option.some.inj hm76
                  refine ex_st (fun _ h => st_pk 13 [] (by decide) h) ?_
                  exact x_r1 rfl (rv_t rfl) (Le.refl _) ⟨_, rfl, rfl, rfl, rfl⟩
                · have hm89 := iff_ hm87 h88
                  clear hm87
                  refine c_skip ?_
                  refine x_blk ?_
                  refine x_seq ?_
                  refine c_reg ?_
                  refine r_u (o_mv rfl) ?_
                  refine r_u (o_bin rfl rfl (bI_add i_78 1)) ?_
                  refine r_u (o_as rfl) ?_
                  refine r_nil ?_
                  exact x_lp (i64 (i_78 + 1)) hm89 ⟨rfl, rfl, rfl, trivial⟩ (fun _ h => st_pk 13 [0, 1, 2, 3, 4, 5, 6, 7, 8, 9, 10, 11, 12] (by decide) h)
              · have hm83 := iff_ hm80 h82
                clear hm80
                refine c_exit (x_exit (ks' := _) rfl ?_)
                obtain rfl := Option.some.inj hm83
                exact x_sub (K77 _ rfl) trivial (fun _ h => st_pk 13 [0, 1, 2, 3, 4, 5, 6, 7, 8, 9, 10, 11, 12] (by decide) h)
        · refine cd_by ((((r42.2.1 != 0) || (r53.2.1 != 0)) || !(decide (r42.1 = r25.1))) || (r53.1.E != 122)) (fun h90 => ?_) fun h90 => ?_
          · have hm91 := ift hp68 h90
            clear hp68
            refine c_any mixed (effs := []) (V := []) ?_
            refine stage_ext [(0, vI r42.2.1), (1, vB (r42.2.1 != 0)), (2, vB (r42.2.1 != 0)), (3, gv (!(r42.2.1 != 0)) (vI r53.2.1)), (4, gv (!(r42.2.1 != 0)) (vB (r53.2.1 != 0))), (5, vB ((r42.2.1 != 0) || (r53.2.1 != 0))), (6, vB ((r42.2.1 != 0) || (r53.2.1 != 0))), (7, gv (!((r42.2.1 != 0) || (r53.2.1 != 0))) (.agg (api_Reply.c r42.1).toArray)), (8, gv (!((r42.2.1 != 0) || (r53.2.1 != 0))) (.agg (api_Reply.c r25.1).toArray)), (9, gv (!((r42.2.1 != 0) || (r53.2.1 != 0))) (vB (!(decide (r42.1 = r25.1))))), (10, vB (((r42.2.1 != 0) || (r53.2.1 != 0)) || !(decide (r42.1 = r25.1)))), (11, vB (((r42.2.1 != 0) || (r53.2.1 != 0)) || !(decide (r42.1 = r25.1)))), (12, gv (!(((r42.2.1 != 0) || (r53.2.1 != 0)) || !(decide (r42.1 = r25.1)))) (pt b63 0)), (13, gv (!(((r42.2.1 != 0) || (r53.2.1 != 0)) || !(decide (r42.1 = r25.1)))) (vI r53.1.E)), (14, gv (!(((r42.2.1 != 0) || (r53.2.1 != 0)) || !(decide (r42.1 = r25.1)))) (vB (r53.1.E != 122))), (15, vB ((((r42.2.1 != 0) || (r53.2.1 != 0)) || !(decide (r42.1 = r25.1))) || (r53.1.E != 122))), (16, vB ((((r42.2.1 != 0) || (r53.2.1 != 0)) || !(decide (r42.1 = r25.1))) || (r53.1.E != 122))), (17, undef), (18, undef), (19, undef), (20, undef), (21, vB true), (22, vB true), (23, undef), (24, undef), (25, undef), (26, undef), (27, undef), (28, vB true)] rfl ?_
            refine stage rfl rfl rfl rfl [0, 1, 3, 7, 15, 31, 63, 127, 127, 511, 1023, 2047, 4095, 8191, 16383, 32767, 65535, 131071, 262143, 131071, 1048575, 2097151, 4194303, 8388607, 16777215, 8388607, 41943039, 134217727, 268435455] [0, 1, 2, 3, 4, 5, 6, 7, 8, 9, 10, 11, 12, 13, 14, 15, 16, 17, 18, 19, 20, 21, 22, 23, 24, 25, 26, 27, 28] [] rfl rfl rfl (qc rfl rfl (s_u (o_mv rfl)) (qc rfl rfl (s_u (o_bin rfl rfl (bI_ne r42.2.1 0))) (qc rfl rfl (s_u (o_mv rfl)) (qc rfl rfl (s_gf rfl rfl fun g => o_mv rfl) (qc rfl rfl (s_gf rfl rfl fun g => o_bin (evg rfl g) rfl (bI_ne r53.2.1 0)) (qc rfl rfl (s_u (o_or rfl rfl)) (qc rfl rfl (s_u (o_mv rfl)) (qc rfl rfl (s_gf rfl rfl fun g => o_ldn 7 (api_Reply.c r42.1) ag41 rfl rfl rfl rfl) (qc rfl rfl (s_gf rfl rfl fun g => o_ldn 10 (api_Reply.c r25.1) ag41 rfl rfl rfl rfl) (qc rfl rfl (s_gf rfl rfl fun g => o_bin (evg rfl g) (evg rfl g) (api_Reply.bne_41 r42.1 r25.1)) (qc rfl rfl (s_u (o_or rfl rfl)) (qc rfl rfl (s_u (o_mv rfl)) (qc rfl rfl (s_gf rfl rfl fun g => o_fa fa41_0 rfl) (qc rfl rfl (s_gf rfl rfl fun g => o_ld 5 sc39 (evg rfl g) rfl rfl) (qc rfl rfl (s_gf rfl rfl fun g => o_bin (evg rfl g) rfl (bI_ne r53.1.E 122)) (qc rfl rfl (s_u (o_or rfl rfl)) (qc rfl rfl (s_u (o_mv rfl)) (qc rfl rfl (s_n rfl rfl h90) (qc rfl rfl (s_n rfl rfl h90) (qc rfl rfl (s_n rfl rfl h90) (qc rfl rfl (s_n rfl rfl h90) (qc rfl rfl (s_u (o_pt rfl h90 rfl)) (qc rfl rfl (s_u (o_mv rfl)) (qc rfl rfl (s_n rfl rfl rfl) (qc rfl rfl (s_n rfl rfl rfl) (qc rfl rfl (s_n rfl rfl rfl) (qc rfl rfl (s_n rfl rfl rfl) (qc rfl rfl (s_n rfl rfl rfl) (qc rfl rfl (s_u (o_pt rfl rfl rfl)) qn))))))))))))))))))))))))))))) en ?_
            intro _
            refine ex_sub (E' := [(14, v39), (20, v65), (122, vB true)]) ⟨rfl, rfl, rfl, trivial⟩ ?_
            obtain rfl := Option.some.inj hm91
            exact x_sub K70 ⟨rfl, rfl, rfl, trivial⟩ (fun _ h => st_pk 13 [1, 5, 6, 7, 8, 10, 11, 12, 0, 2, 3, 4, 9] (by decide) h)
          · have hm91 := iff_ hp68 h90
            clear hp68
            refine c_any mixed (effs := []) (V := []) ?_
            refine stage_ext [(0, vI r42.2.1), (1, vB (r42.2.1 != 0)), (2, vB (r42.2.1 != 0)), (3, gv (!(r42.2.1 != 0)) (vI r53.2.1)), (4, gv (!(r42.2.1 != 0)) (vB (r53.2.1 != 0))), (5, vB ((r42.2.1 != 0) || (r53.2.1 != 0))), (6, vB ((r42.2.1 != 0) || (r53.2.1 != 0))), (7, gv (!((r42.2.1 != 0) || (r53.2.1 != 0))) (.agg (api_Reply.c r42.1).toArray)), (8, gv (!((r42.2.1 != 0) || (r53.2.1 != 0))) (.agg (api_Reply.c r25.1).toArray)), (9, gv (!((r42.2.1 != 0) || (r53.2.1 != 0))) (vB (!(decide (r42.1 = r25.1))))), (10, vB (((r42.2.1 != 0) || (r53.2.1 != 0)) || !(decide (r42.1 = r25.1)))), (11, vB (((r42.2.1 != 0) || (r53.2.1 != 0)) || !(decide (r42.1 = r25.1)))), (12, gv (!(((r42.2.1 != 0) || (r53.2.1 != 0)) || !(decide (r42.1 = r25.1)))) (pt b63 0)), (13, gv (!(((r42.2.1 != 0) || (r53.2.1 != 0)) || !(decide (r42.1 = r25.1)))) (vI r53.1.E)), (14, gv (!(((r42.2.1 != 0) || (r53.2.1 != 0)) || !(decide (r42.1 = r25.1)))) (vB (r53.1.E != 122))), (15, vB ((((r42.2.1 != 0) || (r53.2.1 != 0)) || !(decide (r42.1 = r25.1))) || (r53.1.E != 122))), (16, vB ((((r42.2.1 != 0) || (r53.2.1 != 0)) || !(decide (r42.1 = r25.1))) || (r53.1.E != 122))), (17, pt b12 0), (18, .agg (api_Tally.c (store_Store_Tally r53.2.2)).toArray), (19, .agg (api_Tally.c (store_Store_Tally r25.2.2)).toArray), (20, vB (!(decide ((store_Store_Tally r53.2.2) = (store_Store_Tally r25.2.2))))), (21, vB (!(decide ((store_Store_Tally r53.2.2) = (store_Store_Tally r25.2.2))))), (22, vB (!(decide ((store_Store_Tally r53.2.2) = (store_Store_Tally r25.2.2))))), (23, gv (!(!(decide ((store_Store_Tally r53.2.2) = (store_Store_Tally r25.2.2))))) v39), (24, gv (!(!(decide ((store_Store_Tally r53.2.2) = (store_Store_Tally r25.2.2))))) (vI (r38.length : Int))), (25, gv (!(!(decide ((store_Store_Tally r53.2.2) = (store_Store_Tally r25.2.2))))) v65), (26, gv (!(!(decide ((store_Store_Tally r53.2.2) = (store_Store_Tally r25.2.2))))) (vI (r64.length : Int))), (27, gv (!(!(decide ((store_Store_Tally r53.2.2) = (store_Store_Tally r25.2.2))))) (vB ((r38.length : Int) != (r64.length : Int)))), (28, vB (!(decide ((store_Store_Tally r53.2.2) = (store_Store_Tally r25.2.2))) || ((r38.length : Int) != (r64.length : Int))))] rfl ?_
            refine stage rfl rfl rfl rfl [0, 1, 3, 7, 15, 31, 63, 127, 127, 511, 1023, 2047, 4095, 8191, 16383, 32767, 65535, 131071, 262143, 131071, 1048575, 2097151, 4194303, 8388607, 16777215, 8388607, 41943039, 134217727, 268435455] [0, 1, 2, 3, 4, 5, 6, 7, 8, 9, 10, 11, 12, 13, 14, 15, 16, 17, 18, 19, 20, 21, 22, 23, 24, 25, 26, 27, 28] [] rfl rfl rfl (qc rfl rfl (s_u (o_mv rfl)) (qc rfl rfl (s_u (o_bin rfl rfl (bI_ne r42.2.1 0))) (qc rfl rfl (s_u (o_mv rfl)) (qc rfl rfl (s_gf rfl rfl fun g => o_mv rfl) (qc rfl rfl (s_gf rfl rfl fun g => o_bin (evg rfl g) rfl (bI_ne r53.2.1 0)) (qc rfl rfl (s_u (o_or rfl rfl)) (qc rfl rfl (s_u (o_mv rfl)) (qc rfl rfl (s_gf rfl rfl fun g => o_ldn 7 (api_Reply.c r42.1) ag41 rfl rfl rfl rfl) (qc rfl rfl (s_gf rfl rfl fun g => o_ldn 10 (api_Reply.c r25.1) ag41 rfl rfl rfl rfl) (qc rfl rfl (s_gf rfl rfl fun g => o_bin (evg rfl g) (evg rfl g) (api_Reply.bne_41 r42.1 r25.1)) (qc rfl rfl (s_u (o_or rfl rfl)) (qc rfl rfl (s_u (o_mv rfl)) (qc rfl rfl (s_gf rfl rfl fun g => o_fa fa41_0 rfl) (qc rfl rfl (s_gf rfl rfl fun g => o_ld 5 sc39 (evg rfl g) rfl rfl) (qc rfl rfl (s_gf rfl rfl fun g => o_bin (evg rfl g) rfl (bI_ne r53.1.E 122)) (qc rfl rfl (s_u (o_or rfl rfl)) (qc rfl rfl (s_u (o_mv rfl)) (qc rfl rfl (s_y rfl rfl h90 (o_mv rfl)) (qc rfl rfl (s_y rfl rfl h90 (o_callqP ca17 rfl (store_Store_Tally.ok b12 r53.2.2 (⟨(pv56, g57), (pv59, g60), g61⟩ : store_Store.G) _ rfl) (fun _ h => st_pk 13 [1, 2, 3, 4, 0, 5, 6, 7, 8, 9, 10, 11, 12] (by decide) h) (fun _ h => st_pk 13 [4, 0, 1, 2, 3, 5, 6, 7, 8, 9, 10, 11, 12] (by decide) h))) (qc rfl rfl (s_y rfl rfl h90 (o_ldn 8 (api_Tally.c (store_Store_Tally r25.2.2)) ag47 rfl rfl rfl rfl)) (qc rfl rfl (s_y rfl rfl h90 (o_bin rfl rfl (api_Tally.bne_47 (store_Store_Tally r53.2.2) (store_Store_Tally r25.2.2)))) (qc rfl rfl (s_u (o_pf rfl h90 rfl)) (qc rfl rfl (s_u (o_mv rfl)) (qc rfl rfl (s_gf rfl rfl fun g => o_mv rfl) (qc rfl rfl (s_gf rfl rfl fun g => o_lenO 9 Tryz.underlying44 (evg rfl g) rfl) (qc rfl rfl (s_gf rfl rfl fun g => o_mv rfl) (qc rfl rfl (s_gf rfl rfl fun g => o_lenO 0 Tryz.underlying44 (evg rfl g) rfl) (qc rfl rfl (s_gf rfl rfl fun g => o_bin (evg rfl g) (evg rfl g) (bI_ne (r38.length : Int) (r64.length : Int))) (qc rfl rfl (s_u (o_or rfl rfl)) qn))))))))))))))))))))))))))))) en ?_
            intro _
            refine ex_sub (E' := [(14, v39), (20, v65), (122, vB (!(decide ((store_Store_Tally r53.2.2) = (store_Store_Tally r25.2.2))) || ((r38.length : Int) != (r64.length : Int))))]) ⟨rfl, rfl, rfl, trivial⟩ ?_
            obtain rfl := Option.some.inj hm91
            exact x_sub K70 ⟨rfl, rfl, rfl, trivial⟩ (fun _ h => st_pk 13 [1, 5, 6, 7, 8, 10, 11, 12, 0, 2, 3, 4, 9] (by decide) h)

def store_Store_Now (a0 : store_Store) : UInt64 :=
  a0.now
theorem store_Store_Now.ok {G R F} (b0_ : Nat) (a0 : store_Store) (g0_ : store_Store.G) (r : UInt64) (hm : store_Store_Now a0 = r) : CO Tryz.prog 20 [pt b0_ 0] G R (Bk b0_ 96 [vI a0.c.Policy, vI a0.c.Entries, vI a0.c.Bytes, vW a0.c.Seed, g0_.t.1, g0_.p.1, g0_.sessions, vW a0.seq, vW a0.now, vW a0.version, vI a0.tally.Asked, vI a0.tally.Hits] :: rO (table_Table.op g0_.t.2) g0_.t.1 a0.t :: rO (policy_Policy.op g0_.p.2) g0_.p.1 a0.p :: OwM vW store_last.v g0_.sessions a0.sessions :: F)
    (Ret fun u R' L' => u = vW r ∧ R' = R ∧ L' = Bk b0_ 96 [vI a0.c.Policy, vI a0.c.Entries, vI a0.c.Bytes, vW a0.c.Seed, g0_.t.1, g0_.p.1, g0_.sessions, vW a0.seq, vW a0.now, vW a0.version, vI a0.tally.Asked, vI a0.tally.Hits] :: rO (table_Table.op g0_.t.2) g0_.t.1 a0.t :: rO (policy_Policy.op g0_.p.2) g0_.p.1 a0.p :: OwM vW store_last.v g0_.sessions a0.sessions :: F) := by
  obtain ⟨⟨pv1, g2⟩, ⟨pv4, g5⟩, g6⟩ := g0_
  unfold store_Store_Now at hm
  refine co_ofN (N := 9) Tryz.func20 rfl rfl ?_
  refine c_seq ?_
  refine c_reg ?_
  refine r_u (o_as rfl) ?_
  refine r_nil ?_
  refine x_seq ?_
  refine c_seq ?_
  refine c_seq ?_
  refine c_reg ?_
  refine r_u (o_mv rfl) ?_
  refine r_u (o_bin rfl rfl (bP_eqp Tryz.underlying30)) ?_
  refine r_nil ?_
  refine x_seq ?_
  refine c_ff rfl ?_
  refine c_skip ?_
  refine x_seq ?_
  refine c_seq ?_
  refine c_reg ?_
  refine r_u (o_mv rfl) ?_
  refine r_u (o_nc rfl) ?_
  refine r_u (o_fa fa96_5 rfl) ?_
  refine r_u (o_ld 0 sc22 rfl rfl rfl) ?_
  refine r_u (o_as rfl) ?_
  refine r_nil ?_
  refine x_seq ?_
  refine c_ret ?_
  subst hm
  exact x_r1 rfl (rv_t rfl) (Le.refl _) ⟨_, rfl, rfl, rfl, rfl⟩

def hawthornlaw12_StoreBounds_l1 (r51 : api_Reply × Int × store_Store) (r61 : List api_Entry) : Nat → Int → Int → Option (Int ⊕ ((Option store_Store × UInt64) ⊕ (Unit ⊕ Bool)))
  | 0, _, _ => none
  | k73 + 1, bytes_71, k_72 => if decide (k_72 < (r61.length : Int)) then (gi r61 k_72).bind fun x78 => Option.bind (if (x78.End != 0) then some (decide (x78.End ≤ (store_Store_Now r51.2.2)) || decide (x78.Version < 1)) else some (decide (x78.Version < 1))) fun p80 => if p80 then some (Sum.inr (Sum.inr (Sum.inr false))) else hawthornlaw12_StoreBounds_l1 r51 r61 k73 (i64 (bytes_71 + (i64 ((x78.Key.length : Int) + (x78.Value.length : Int))))) (i64 (k_72 + 1)) else some (Sum.inl bytes_71)
def hawthornlaw12_StoreBounds_l0 (a0 : api_Config) (a1 : List hawthornlaw12_Act) : Nat → (Option store_Store) → UInt64 → Int → Option (Unit ⊕ Bool)
  | 0, _, _, _ => none
  | k22 + 1, s_16, now_17, i_18 => if (decide (i_18 < (a1.length : Int)) && decide (i_18 < 80)) then Option.bind (om s_16 (none) fun x35 => (gi a1 i_18).bind fun x46 => (hawthornlaw12_record (store_Store_Seq x35) now_17 x46).bind fun r48 => (store_Store_Apply x35 r48.1).bind fun r51 => (store_Store_Entries r51.2.2).bind fun r61 => Option.bind (hawthornlaw12_StoreBounds_l1 r51 r61 (((r61.length : Int) - 0).toNat + 1) 0 0) fun (p64 : Int ⊕ ((Option store_Store × UInt64) ⊕ (Unit ⊕ Bool))) => (match p64 with | Sum.inl q65 => if (decide (((hawthornlaw12_Config a0).Entries) < (r61.length : Int)) || decide (((hawthornlaw12_Config a0).Bytes) < q65)) then some (Sum.inr (Sum.inr false)) else some (Sum.inl ((some r51.2.2), r48.2)) | Sum.inr r => some r)) fun (p27 : (Option store_Store × UInt64) ⊕ (Unit ⊕ Bool)) => (match p27 with | Sum.inl q28 => hawthornlaw12_StoreBounds_l0 a0 a1 k22 q28.1 q28.2 (i64 (i_18 + 1)) | Sum.inr r => some r) else some (Sum.inl ())
def hawthornlaw12_StoreBounds (a0 : api_Config) (a1 : List hawthornlaw12_Act) : Option Bool :=
  (store_New (hawthornlaw12_Config a0)).bind fun r2 => (hawthornlaw12_awake).bind fun r7 => if (!r7 || (r2.2 != 0)) then some false else Option.bind (hawthornlaw12_StoreBounds_l0 a0 a1 (((a1.length : Int) - 0).toNat + 1) r2.1 0 0) fun (p11 : Unit ⊕ Bool) => (match p11 with | Sum.inl q12 => some true | Sum.inr r => some r)
theorem hawthornlaw12_StoreBounds.ok {G R F} (a0 : api_Config) (v1_ : Value) (a1 : List hawthornlaw12_Act) (h1_ : RoS R v1_ 9 hawthornlaw12_Act.c a1) (r : Bool) (hm : hawthornlaw12_StoreBounds a0 a1 = some r) : CO Tryz.prog 4 [.agg (api_Config.c a0).toArray, v1_] G R (F)
    (Ret fun u R' L' => u = vB r ∧ R' = R ∧ L' = F) := by
  unfold hawthornlaw12_StoreBounds at hm
  refine co_ofN (N := 111) Tryz.func4 rfl rfl ?_
  refine c_seq ?_
  refine c_reg ?_
  refine r_new (o_bx (api_Config.c a0) rfl rfl) fun b0 => ?_
  refine r_u (o_as rfl) ?_
  refine r_nil ?_
  refine x_seq ?_
  refine c_seq ?_
  refine c_reg ?_
  refine r_u (o_ldn 0 (api_Config.c a0) ag24 rfl rfl rfl rfl) ?_
  refine r_u (o_callq ca18 rfl (hawthornlaw12_Config.ok a0 _ rfl)) ?_
  refine r_new (o_al ze24) fun b1 => ?_
  refine r_u0 (o_stn ag24 rfl rfl rfl rfl rfl rfl rfl) ?_
  refine r_nil ?_
  refine x_seq ?_
  refine c_seq ?_
  refine c_reg ?_
  refine r_u (o_ldn 0 (api_Config.c (hawthornlaw12_Config a0)) ag24 rfl rfl rfl rfl) ?_
  obtain ⟨r2, hr2, hm6⟩ := bs hm
  clear hm
  refine r_sw (s_w (o_call ca19 rfl (store_New.ok (hawthornlaw12_Config a0) r2 hr2))) ?_
  rintro _ R _ _ ⟨⟨pv4, g5⟩, rfl, rfl, rfl⟩
  refine r_u (o_mv rfl) ?_
  refine r_u (o_ext rfl rfl) ?_
  refine r_u (o_ext rfl rfl) ?_
  refine r_u (o_as rfl) ?_
  refine r_u (o_as rfl) ?_
  refine r_nil ?_
  refine x_seq ?_
  refine c_seq ?_
  refine c_reg ?_
  refine r_u (o_as rfl) ?_
  refine r_nil ?_
  refine x_seq ?_
  refine c_seq ?_
  refine c_seq ?_
  refine c_reg ?_
  obtain ⟨r7, hr7, hm8⟩ := bs hm6
  clear hm6
  refine r_u (o_callq ca12 rfl (hawthornlaw12_awake.ok r7 hr7)) ?_
  refine r_u (o_not rfl) ?_
  refine r_u (o_mv rfl) ?_
  refine r_s (s_gf rfl rfl fun g => o_mv rfl) ?_
  refine r_s (s_gf rfl rfl fun g => o_bin (evg rfl g) rfl (bI_ne r2.2 0)) ?_
  refine r_u (o_or rfl rfl) ?_
  refine r_nil ?_
  refine x_seq ?_
  refine c_if (b := (!r7 || (r2.2 != 0))) rfl (fun h9 => ?_) fun h9 => ?_
  · have hm10 := ift hm8 h9
    clear hm8
    refine c_seq ?_
    refine c_reg ?_
    refine r_u (o_as rfl) ?_
    refine r_nil ?_
    refine x_seq ?_
    refine c_ret ?_
    obtain rfl := Option.some.inj hm10
    refine ex_st (fun _ h => st_pk 3 [] (by decide) h) ?_
    exact x_r1 rfl (rv_t rfl) (Le.refl _) ⟨_, rfl, rfl, rfl, rfl⟩
  · have hm10 := iff_ hm8 h9
    clear hm8
    refine c_skip ?_
    refine x_seq ?_
    refine c_seq ?_
    refine c_seq ?_
    refine c_reg ?_
    refine r_u (o_as rfl) ?_
    refine r_nil ?_
    refine x_seq ?_
    obtain ⟨p11, hp13, hm14⟩ := bs hm10
    refine cd_joinS (p := p11) (Ef := fun q12 => []) (Lf := fun q12 => Bk b1 24 (api_Config.c (hawthornlaw12_Config a0)) :: Bk b0 24 (api_Config.c a0) :: F) (fun q12 hq => ?_) fun K15 => ?_
    · subst hq
      try dsimp only at hm14
      refine x_seq ?_
      refine c_seq ?_
      refine c_reg ?_
      refine r_u (o_as rfl) ?_
      refine r_nil ?_
      refine x_seq ?_
      refine c_ret ?_
      obtain rfl := Option.some.inj hm14
      refine ex_st (fun _ h => st_pk 2 [] (by decide) h) ?_
      exact x_r1 rfl (rv_t rfl) (Le.refl _) ⟨_, rfl, rfl, rfl, rfl⟩
    · refine c_blk ?_
      refine cd_loopG (M := fun k22 (s : Option store_Store × UInt64 × Int × (Value × store_Store.G)) => hawthornlaw12_StoreBounds_l0 a0 a1 k22 s.1 s.2.1 s.2.2.1 = some p11) (Ef := fun (s : Option store_Store × UInt64 × Int × (Value × store_Store.G)) => [(1, v1_), (5, pt b1 0), (6, s.2.2.2.1), (8, vW s.2.1), (9, vI s.2.2.1)]) (Rf := fun (s : Option store_Store × UInt64 × Int × (Value × store_Store.G)) => R) (Lf := fun (s : Option store_Store × UInt64 × Int × (Value × store_Store.G)) => Bk b1 24 (api_Config.c (hawthornlaw12_Config a0)) :: Bk b0 24 (api_Config.c a0) :: rO (store_Store.op s.2.2.2.2) s.2.2.2.1 s.1 :: F) (((a1.length : Int) - 0).toNat + 1) (r2.1, 0, 0, (pv4, g5)) hp13 ⟨rfl, rfl, rfl, rfl, rfl, trivial⟩ (fun _ h => st_pk 3 [1, 2, 0] (by decide) h) (fun _ h => by cases h) fun k22 s hM24 => ?_
      obtain ⟨s_16, now_17, i_18, pv19⟩ := s
      have hm23 : hawthornlaw12_StoreBounds_l0 a0 a1 (k22 + 1) s_16 now_17 i_18 = some p11 := hM24
      rw [hawthornlaw12_StoreBounds_l0] at hm23
      obtain ⟨pv20, g21⟩ := pv19
      refine c_seq ?_
      refine c_seq ?_
      refine c_reg ?_
      refine r_u (o_mv rfl) ?_
      refine r_u (o_mv rfl) ?_
      refine r_u (o_lenR Tryz.underlying25 rfl h1_) ?_
      refine r_u (o_bin rfl rfl (bI_lt i_18 (a1.length : Int))) ?_
      refine r_u (o_mv rfl) ?_
      refine r_s (s_gt rfl rfl fun g => o_mv rfl) ?_
      refine r_s (s_gt rfl rfl fun g => o_bin (evg rfl g) rfl (bI_lt i_18 80)) ?_
      refine r_u (o_and rfl rfl) ?_
      refine r_nil ?_
      refine x_seq ?_
      refine c_if (b := (decide (i_18 < (a1.length : Int)) && decide (i_18 < 80))) rfl (fun h25 => ?_) fun h25 => ?_
      · have hm26 := ift hm23 h25
        clear hm23
        refine c_skip ?_
        refine x_seq ?_
        refine c_seq ?_
        obtain ⟨p27, hp32, hm33⟩ := bs hm26
        refine cd_cut (fun x ks => ∀ (q28 : Option store_Store × UInt64), ∀ (_ : p27 = Sum.inl q28), ∀ (pv29 : Value × store_Store.G), EX x .normal ks [(1, v1_), (5, pt b1 0), (9, vI i_18), (6, pv29.1), (8, vW q28.2)] R (Bk b1 24 (api_Config.c (hawthornlaw12_Config a0)) :: Bk b0 24 (api_Config.c a0) :: rO (store_Store.op pv29.2) pv29.1 q28.1 :: F)) ?_ fun K34 => ?_
        · intro q28 hq pv29
          subst hq
          try dsimp only at hm33
          obtain ⟨pv30, g31⟩ := pv29
          refine x_seq ?_
          refine c_reg ?_
          refine r_u (o_mv rfl) ?_
          refine r_u (o_bin rfl rfl (bI_add i_18 1)) ?_
          refine r_u (o_as rfl) ?_
          refine r_nil ?_
          exact x_lp (q28.1, q28.2, i64 (i_18 + 1), (pv30, g31)) hm33 ⟨rfl, rfl, rfl, rfl, rfl, trivial⟩ (fun _ h => st_pk 3 [0, 1, 2] (by decide) h)
        · refine c_blk ?_
          refine c_seq ?_
          refine cd_st (fun _ h => mv2 h) ?_
          refine cd_opt (fun ho37 => ?_) (fun x35 b36 ho37 => ?_)
          · rintro rfl
            have hm38 := om_n hp32 ho37
            clear hp32
            cases hm38
          · rintro rfl
            have hm38 := om_s hp32 ho37
            clear hp32
            obtain ⟨⟨pv40, g41⟩, ⟨pv43, g44⟩, g45⟩ := g21
            refine cd_st (fun _ h => st_star_o h) ?_
            obtain ⟨x46, hx46, hm47⟩ := bs hm38
            clear hm38
            obtain ⟨b46, o46, l46, T46, fr46, c46, hv46, hR46, he46, hi46⟩ := RoS.ne h1_ hx46
            obtain ⟨r48, hr48, hm49⟩ := bs hm47
            clear hm47
            refine c_any mixed (effs := [11, 12]) (V := []) ?_
            refine stage_ext [(0, pt b36 0), (1, vW (store_Store_Seq x35)), (2, vW now_17), (3, v1_), (4, vI i_18), (5, pt b46 (o46 + i_18.toNat * 9)), (6, .agg (hawthornlaw12_Act.c x46).toArray), (7, .tuple #[.agg (api_Record.c r48.1).toArray, vW r48.2]), (8, .tuple #[.agg (api_Record.c r48.1).toArray, vW r48.2]), (9, .agg (api_Record.c r48.1).toArray), (10, vW r48.2)] rfl ?_
            refine stage rfl rfl rfl rfl [0, 1, 0, 0, 0, 24, 56, 127, 255, 511, 511, 0, 3071, 8191] [0, 1, 2, 3, 4, 5, 6, 7, 8, 9, 10] [11] rfl rfl rfl (qc rfl rfl (s_u (o_mv rfl)) (qc rfl rfl (s_u (o_callqP ca14 rfl (store_Store_Seq.ok b36 x35 (⟨(pv40, g41), (pv43, g44), g45⟩ : store_Store.G) _ rfl) (fun _ h => st_pk 6 [0, 1, 2, 3, 4, 5] (by decide) h) (fun _ h => st_pk 6 [0, 1, 2, 3, 4, 5] (by decide) h))) (qc rfl rfl (s_u (o_mv rfl)) (qc rfl rfl (s_u (o_mv rfl)) (qc rfl rfl (s_u (o_mv rfl)) (qc rfl rfl (s_u (o_ix (sz := 9) Tryz.underlying25 (fun _ => by kernel_rfl) rfl rfl hv46 hi46)) (qc rfl rfl (s_u (o_ldnR (hawthornlaw12_Act.c x46) ag29 rfl hR46 he46 rfl)) (qc rfl rfl (s_u (o_callq ca13 rfl (hawthornlaw12_record.ok (store_Store_Seq x35) now_17 x46 r48 hr48))) (qc rfl rfl (s_u (o_mv rfl)) (qc rfl rfl (s_u (o_ext rfl rfl)) (qc rfl rfl (s_u (o_ext rfl rfl)) qn))))))))))) ?_ (fun h => absurd h (by decide))
            refine ec (eo_n rfl (s_w (o_al ze35)) fun b50 => ?_) en
            refine stage rfl rfl rfl rfl [0, 1, 0, 0, 0, 24, 56, 127, 255, 511, 511, 0, 3071, 8191] [0, 1, 2, 3, 4, 5, 6, 7, 8, 9, 10] [12] rfl rfl rfl (qc rfl rfl (s_u (o_mv rfl)) (qc rfl rfl (s_u (o_callqP ca14 rfl (store_Store_Seq.ok b36 x35 (⟨(pv40, g41), (pv43, g44), g45⟩ : store_Store.G) _ rfl) (fun _ h => st_pk 7 [1, 2, 3, 4, 0, 5, 6] (by decide) h) (fun _ h => st_pk 7 [4, 0, 1, 2, 3, 5, 6] (by decide) h))) (qc rfl rfl (s_u (o_mv rfl)) (qc rfl rfl (s_u (o_mv rfl)) (qc rfl rfl (s_u (o_mv rfl)) (qc rfl rfl (s_u (o_ix (sz := 9) Tryz.underlying25 (fun _ => by kernel_rfl) rfl rfl hv46 hi46)) (qc rfl rfl (s_u (o_ldnR (hawthornlaw12_Act.c x46) ag29 rfl hR46 he46 rfl)) (qc rfl rfl (s_u (o_callq ca13 rfl (hawthornlaw12_record.ok (store_Store_Seq x35) now_17 x46 r48 hr48))) (qc rfl rfl (s_u (o_mv rfl)) (qc rfl rfl (s_u (o_ext rfl rfl)) (qc rfl rfl (s_u (o_ext rfl rfl)) qn))))))))))) ?_ (fun h => absurd h (by decide))
            refine ec (eo_u rfl (s_u (o_stn ag35 rfl rfl rfl rfl rfl rfl rfl)) (Le.refl _) ?_) en
            refine stage_ext [(13, vW r48.2)] rfl ?_
            refine stage rfl rfl rfl rfl [0, 1, 0, 0, 0, 24, 56, 127, 255, 511, 511, 0, 3071, 8191] [10, 13] [] rfl rfl rfl (qc rfl rfl (s_u (o_ext rfl rfl)) (qc rfl rfl (s_u (o_as rfl)) qn)) en ?_
            intro _
            refine ex_sub (E' := [(1, v1_), (5, pt b1 0), (6, pt b36 0), (9, vI i_18), (10, pt b50 0), (11, vW r48.2)]) ⟨rfl, rfl, rfl, rfl, rfl, rfl, trivial⟩ ?_
            refine x_seq ?_
            refine c_seq ?_
            refine c_reg ?_
            refine r_u (o_mv rfl) ?_
            refine r_u (o_as rfl) ?_
            refine r_nil ?_
            refine x_seq ?_
            refine c_seq ?_
            refine c_reg ?_
            refine r_u (o_mv rfl) ?_
            refine r_u (o_ldn 0 (api_Record.c r48.1) ag35 rfl rfl rfl rfl) ?_
            obtain ⟨r51, hr51, hm60⟩ := bs hm49
            clear hm49
            refine rl_st (fun _ h => mv4 (mv4 (mv4 (mv4 h)))) ?_
            refine r_sw (s_w (o_call ca15 rfl (store_Store_Apply.ok b36 x35 (⟨(pv40, g41), (pv43, g44), g45⟩ : store_Store.G) r48.1 r51 hr51))) ?_
            rintro _ R _ _ ⟨⟨⟨pv54, g55⟩, ⟨pv57, g58⟩, g59⟩, rfl, rfl, rfl⟩
            refine r_nil ?_
            refine x_seq ?_
            refine c_seq ?_
            refine c_reg ?_
            refine r_u (o_mv rfl) ?_
            obtain ⟨r61, hr61, hm63⟩ := bs hm60
            clear hm60
            refine r_sw (s_w (o_call ca16 rfl (store_Store_Entries.ok b36 r51.2.2 (⟨(pv54, g55), (pv57, g58), g59⟩ : store_Store.G) r61 hr61))) ?_
            rintro v62 R _ _ ⟨_, rfl, rfl, rfl⟩
            refine r_u (o_as rfl) ?_
            refine r_u (o_as rfl) ?_
            refine r_nil ?_
            refine x_seq ?_
            refine c_seq ?_
            refine c_seq ?_
            refine c_reg ?_
            refine r_u (o_as rfl) ?_
            refine r_nil ?_
            refine x_seq ?_
            obtain ⟨p64, hp66, hm67⟩ := bs hm63
            refine cd_joinS (p := p64) (Ef := fun q65 => [(1, v1_), (5, pt b1 0), (6, pt b36 0), (8, vW r48.2), (9, vI i_18), (12, v62), (13, vI q65)]) (Lf := fun q65 => Bk b36 96 [vI r51.2.2.c.Policy, vI r51.2.2.c.Entries, vI r51.2.2.c.Bytes, vW r51.2.2.c.Seed, pv54, pv57, g59, vW r51.2.2.seq, vW r51.2.2.now, vW r51.2.2.version, vI r51.2.2.tally.Asked, vI r51.2.2.tally.Hits] :: Bk b50 35 (api_Record.c r48.1) :: Bk b1 24 (api_Config.c (hawthornlaw12_Config a0)) :: Bk b0 24 (api_Config.c a0) :: OwS true 50 4 api_Entry.c v62 r61 :: rO (table_Table.op g55) pv54 r51.2.2.t :: rO (policy_Policy.op g58) pv57 r51.2.2.p :: OwM vW store_last.v g59 r51.2.2.sessions :: F) (fun q65 hq => ?_) fun K68 => ?_
            · subst hq
              try dsimp only at hm67
              refine x_seq ?_
              refine c_seq ?_
              refine c_reg ?_
              refine r_u (o_mv rfl) ?_
              refine r_u (o_lenO 4 Tryz.underlying44 rfl rfl) ?_
              refine r_u (o_fa fa24_1 rfl) ?_
              refine r_u (o_ld 2 sc3 rfl rfl rfl) ?_
              refine r_u (o_bin rfl rfl (bI_gt (r61.length : Int) ((hawthornlaw12_Config a0).Entries))) ?_
              refine r_u (o_mv rfl) ?_
              refine r_s (s_gf rfl rfl fun g => o_mv rfl) ?_
              refine r_s (s_gf rfl rfl fun g => o_fa fa24_2 rfl) ?_
              refine r_s (s_gf rfl rfl fun g => o_ld 2 sc3 (evg rfl g) rfl rfl) ?_
              refine r_s (s_gf rfl rfl fun g => o_bin (evg rfl g) (evg rfl g) (bI_gt q65 ((hawthornlaw12_Config a0).Bytes))) ?_
              refine r_u (o_or rfl rfl) ?_
              refine r_nil ?_
              refine x_seq ?_
              refine c_if (b := (decide (((hawthornlaw12_Config a0).Entries) < (r61.length : Int)) || decide (((hawthornlaw12_Config a0).Bytes) < q65))) rfl (fun h69 => ?_) fun h69 => ?_
              · have hm70 := ift hm67 h69
                clear hm67
                refine c_seq ?_
                refine c_reg ?_
                refine r_u (o_as rfl) ?_
                refine r_nil ?_
                refine x_seq ?_
                refine c_ret ?_
                obtain rfl := Option.some.inj hm70
                try dsimp only at hm33
                obtain rfl := Option.some.inj hm33
                try dsimp only at hm14
                obtain rfl := Option.some.inj hm14
                refine ex_st (fun _ h => st_pk 8 [] (by decide) h) ?_
                exact x_r1 rfl (rv_t rfl) (Le.refl _) ⟨_, rfl, rfl, rfl, rfl⟩
              · have hm70 := iff_ hm67 h69
                clear hm67
                refine c_skip ?_
                refine x_blk ?_
                refine ex_st (fun _ h => mv3 (mv7 (mv7 (mv7 h)))) ?_
                refine ex_st (fun _ h => st_some (f := store_Store.op (⟨(pv54, g55), (pv57, g58), g59⟩ : store_Store.G)) (a := r51.2.2) (st_star_f (A := store_Store.fl b36 r51.2.2 (⟨(pv54, g55), (pv57, g58), g59⟩ : store_Store.G)) h)) ?_
                obtain rfl := Option.some.inj hm70
                exact x_sub (K34 _ rfl (pt b36 0, (⟨(pv54, g55), (pv57, g58), g59⟩ : store_Store.G))) ⟨rfl, rfl, rfl, rfl, rfl, trivial⟩ (fun _ h => st_pk 5 [2, 3, 0] (by decide) h)
            · refine c_blk ?_
              refine cd_loop (M := fun k73 (s : Int × Int) => hawthornlaw12_StoreBounds_l1 r51 r61 k73 s.1 s.2 = some p64) (Ef := fun (s : Int × Int) => [(1, v1_), (5, pt b1 0), (6, pt b36 0), (8, vW r48.2), (9, vI i_18), (12, v62), (13, vI s.1), (14, vI s.2)]) (Lf := fun (s : Int × Int) => Bk b36 96 [vI r51.2.2.c.Policy, vI r51.2.2.c.Entries, vI r51.2.2.c.Bytes, vW r51.2.2.c.Seed, pv54, pv57, g59, vW r51.2.2.seq, vW r51.2.2.now, vW r51.2.2.version, vI r51.2.2.tally.Asked, vI r51.2.2.tally.Hits] :: Bk b50 35 (api_Record.c r48.1) :: Bk b1 24 (api_Config.c (hawthornlaw12_Config a0)) :: Bk b0 24 (api_Config.c a0) :: OwS true 50 4 api_Entry.c v62 r61 :: rO (table_Table.op g55) pv54 r51.2.2.t :: rO (policy_Policy.op g58) pv57 r51.2.2.p :: OwM vW store_last.v g59 r51.2.2.sessions :: F) (((r61.length : Int) - 0).toNat + 1) (0, 0) hp66 ⟨rfl, rfl, rfl, rfl, rfl, rfl, rfl, rfl, trivial⟩ (fun _ h => st_pk 8 [1, 5, 6, 7, 0, 2, 3, 4] (by decide) h) (fun _ h => by cases h) fun k73 s hM75 => ?_
              obtain ⟨bytes_71, k_72⟩ := s
              have hm74 : hawthornlaw12_StoreBounds_l1 r51 r61 (k73 + 1) bytes_71 k_72 = some p64 := hM75
              rw [hawthornlaw12_StoreBounds_l1] at hm74
              refine c_seq ?_
              refine c_seq ?_
              refine c_reg ?_
              refine r_u (o_mv rfl) ?_
              refine r_u (o_mv rfl) ?_
              refine r_u (o_lenO 4 Tryz.underlying44 rfl rfl) ?_
              refine r_u (o_bin rfl rfl (bI_lt k_72 (r61.length : Int))) ?_
              refine r_nil ?_
              refine x_seq ?_
              refine c_if (b := decide (k_72 < (r61.length : Int))) rfl (fun h76 => ?_) fun h76 => ?_
              · have hm77 := ift hm74 h76
                clear hm74
                refine c_skip ?_
                refine x_seq ?_
                refine c_seq ?_
                refine c_blk ?_
                refine c_seq ?_
                obtain ⟨x78, hx78, hm79⟩ := bs hm77
                clear hm77
                refine c_any mixed (effs := []) (V := []) ?_
                refine stage_ext [(0, vI bytes_71), (1, v62), (2, vI k_72), (3, pt (sb v62) (so v62 + k_72.toNat * 4)), (4, pt (sb v62) (so v62 + k_72.toNat * 4)), (5, vS x78.Key), (6, vI (x78.Key.length : Int)), (7, v62), (8, vI k_72), (9, pt (sb v62) (so v62 + k_72.toNat * 4)), (10, pt (sb v62) (so v62 + k_72.toNat * 4 + 1)), (11, vS x78.Value), (12, vI (x78.Value.length : Int)), (13, vI (i64 ((x78.Key.length : Int) + (x78.Value.length : Int)))), (14, vI (i64 (bytes_71 + (i64 ((x78.Key.length : Int) + (x78.Value.length : Int)))))), (15, vI (i64 (bytes_71 + (i64 ((x78.Key.length : Int) + (x78.Value.length : Int))))))] rfl ?_
                refine stage rfl rfl rfl rfl [0, 0, 0, 6, 14, 30, 62, 0, 0, 384, 896, 1920, 3968, 8190, 16383, 32767] [0, 1, 2, 3, 4, 5, 6, 7, 8, 9, 10, 11, 12, 13, 14, 15] [] rfl rfl rfl (qc rfl rfl (s_u (o_mv rfl)) (qc rfl rfl (s_u (o_mv rfl)) (qc rfl rfl (s_u (o_mv rfl)) (qc rfl rfl (s_u (o_ixO 4 Tryz.underlying44 (fun _ => by kernel_rfl) rfl rfl rfl hx78)) (qc rfl rfl (s_u (o_fa fa50_0 rfl)) (qc rfl rfl (s_u (o_ldO0 4 sc9 rfl rfl hx78 rfl rfl)) (qc rfl rfl (s_u (o_lenS Tryz.underlying9 rfl)) (qc rfl rfl (s_u (o_mv rfl)) (qc rfl rfl (s_u (o_mv rfl)) (qc rfl rfl (s_u (o_ixO 4 Tryz.underlying44 (fun _ => by kernel_rfl) rfl rfl rfl hx78)) (qc rfl rfl (s_u (o_fa fa50_1 rfl)) (qc rfl rfl (s_u (o_ldO 4 1 sc9 rfl rfl hx78 rfl rfl)) (qc rfl rfl (s_u (o_lenS Tryz.underlying9 rfl)) (qc rfl rfl (s_u (o_bin rfl rfl (bI_add (x78.Key.length : Int) (x78.Value.length : Int)))) (qc rfl rfl (s_u (o_bin rfl rfl (bI_add bytes_71 (i64 ((x78.Key.length : Int) + (x78.Value.length : Int)))))) (qc rfl rfl (s_u (o_as rfl)) qn)))))))))))))))) en ?_
                intro _
                refine ex_sub (E' := [(1, v1_), (5, pt b1 0), (6, pt b36 0), (8, vW r48.2), (9, vI i_18), (12, v62), (13, vI (i64 (bytes_71 + (i64 ((x78.Key.length : Int) + (x78.Value.length : Int)))))), (14, vI k_72)]) ⟨rfl, rfl, rfl, rfl, rfl, rfl, rfl, rfl, trivial⟩ ?_
                refine x_seq ?_
                refine c_seq ?_
                obtain ⟨p80, hp81, hm82⟩ := bs hm79
                refine cd_join (E' := [(1, v1_), (5, pt b1 0), (6, pt b36 0), (8, vW r48.2), (9, vI i_18), (12, v62), (13, vI (i64 (bytes_71 + (i64 ((x78.Key.length : Int) + (x78.Value.length : Int)))))), (14, vI k_72), (99, vB p80)]) (L' := Bk b36 96 [vI r51.2.2.c.Policy, vI r51.2.2.c.Entries, vI r51.2.2.c.Bytes, vW r51.2.2.c.Seed, pv54, pv57, g59, vW r51.2.2.seq, vW r51.2.2.now, vW r51.2.2.version, vI r51.2.2.tally.Asked, vI r51.2.2.tally.Hits] :: Bk b50 35 (api_Record.c r48.1) :: Bk b1 24 (api_Config.c (hawthornlaw12_Config a0)) :: Bk b0 24 (api_Config.c a0) :: OwS true 50 4 api_Entry.c v62 r61 :: rO (table_Table.op g55) pv54 r51.2.2.t :: rO (policy_Policy.op g58) pv57 r51.2.2.p :: OwM vW store_last.v g59 r51.2.2.sessions :: F) ?_ fun K83 => ?_
                · refine x_seq ?_
                  refine c_if (b := p80) rfl (fun h84 => ?_) fun h84 => ?_
                  · have hm85 := ift hm82 h84
                    clear hm82
                    refine c_seq ?_
                    refine c_reg ?_
                    refine r_u (o_as rfl) ?_
                    refine r_nil ?_
                    refine x_seq ?_
                    refine c_ret ?_
                    obtain rfl := Option.some.inj hm85
                    try dsimp only at hm67
                    obtain rfl := Option.some.inj hm67
                    try dsimp only at hm33
                    obtain rfl := Option.some.inj hm33
                    try dsimp only at hm14
                    obtain rfl := Option.some.inj hm14
                    refine ex_st (fun _ h => st_pk 8 [] (by decide) h) ?_
                    exact x_r1 rfl (rv_t rfl) (Le.refl _) ⟨_, rfl, rfl, rfl, rfl⟩
                  · have hm85 := iff_ hm82 h84
                    clear hm82
                    refine c_skip ?_
                    refine x_blk ?_
                    refine x_seq ?_
                    refine c_reg ?_
                    refine r_u (o_mv rfl) ?_
                    refine r_u (o_bin rfl rfl (bI_add k_72 1)) ?_
                    refine r_u (o_as rfl) ?_
                    refine r_nil ?_
                    exact x_lp (i64 (bytes_71 + (i64 ((x78.Key.length : Int) + (x78.Value.length : Int)))), i64 (k_72 + 1)) hm85 ⟨rfl, rfl, rfl, rfl, rfl, rfl, rfl, rfl, trivial⟩ (fun _ h => st_pk 8 [0, 1, 2, 3, 4, 5, 6, 7] (by decide) h)
                · refine cd_by (x78.End != 0) (fun h86 => ?_) fun h86 => ?_
                  · have hm87 := ift hp81 h86
                    clear hp81
                    refine c_any mixed (effs := []) (V := []) ?_
                    refine stage_ext [(0, v62), (1, vI k_72), (2, pt (sb v62) (so v62 + k_72.toNat * 4)), (3, pt (sb v62) (so v62 + k_72.toNat * 4 + 3)), (4, vW x78.End), (5, vB (x78.End != 0)), (6, vB (x78.End != 0)), (7, v62), (8, vI k_72), (9, pt (sb v62) (so v62 + k_72.toNat * 4)), (10, pt (sb v62) (so v62 + k_72.toNat * 4 + 3)), (11, vW x78.End), (12, pt b36 0), (13, vW (store_Store_Now r51.2.2)), (14, vB (decide (x78.End ≤ (store_Store_Now r51.2.2)))), (15, vB (decide (x78.End ≤ (store_Store_Now r51.2.2)))), (16, vB (decide (x78.End ≤ (store_Store_Now r51.2.2)))), (17, gv (!(decide (x78.End ≤ (store_Store_Now r51.2.2)))) v62), (18, gv (!(decide (x78.End ≤ (store_Store_Now r51.2.2)))) (vI k_72)), (19, gv (!(decide (x78.End ≤ (store_Store_Now r51.2.2)))) (pt (sb v62) (so v62 + k_72.toNat * 4))), (20, gv (!(decide (x78.End ≤ (store_Store_Now r51.2.2)))) (pt (sb v62) (so v62 + k_72.toNat * 4 + 2))), (21, gv (!(decide (x78.End ≤ (store_Store_Now r51.2.2)))) (vW x78.Version)), (22, gv (!(decide (x78.End ≤ (store_Store_Now r51.2.2)))) (vB (decide (x78.Version < 1)))), (23, vB (decide (x78.End ≤ (store_Store_Now r51.2.2)) || decide (x78.Version < 1)))] rfl ?_
                    refine stage rfl rfl rfl rfl [0, 0, 3, 7, 15, 31, 63, 127, 127, 511, 1023, 2047, 127, 4223, 16383, 32767, 65535, 131071, 131071, 524287, 1048575, 2097151, 4194303, 8388607] [0, 1, 2, 3, 4, 5, 6, 7, 8, 9, 10, 11, 12, 13, 14, 15, 16, 17, 18, 19, 20, 21, 22, 23] [] rfl rfl rfl (qc rfl rfl (s_u (o_mv rfl)) (qc rfl rfl (s_u (o_mv rfl)) (qc rfl rfl (s_u (o_ixO 4 Tryz.underlying44 (fun _ => by kernel_rfl) rfl rfl rfl hx78)) (qc rfl rfl (s_u (o_fa fa50_3 rfl)) (qc rfl rfl (s_u (o_ldO 4 3 sc22 rfl rfl hx78 rfl rfl)) (qc rfl rfl (s_u (o_bin rfl rfl (bW_ne x78.End 0))) (qc rfl rfl (s_u (o_mv rfl)) (qc rfl rfl (s_y rfl rfl h86 (o_mv rfl)) (qc rfl rfl (s_y rfl rfl h86 (o_mv rfl)) (qc rfl rfl (s_y rfl rfl h86 (o_ixO 4 Tryz.underlying44 (fun _ => by kernel_rfl) rfl rfl rfl hx78)) (qc rfl rfl (s_y rfl rfl h86 (o_fa fa50_3 rfl)) (qc rfl rfl (s_y rfl rfl h86 (o_ldO 4 3 sc22 rfl rfl hx78 rfl rfl)) (qc rfl rfl (s_y rfl rfl h86 (o_mv rfl)) (qc rfl rfl (s_y rfl rfl h86 (o_callqP ca20 rfl (store_Store_Now.ok b36 r51.2.2 (⟨(pv54, g55), (pv57, g58), g59⟩ : store_Store.G) _ rfl) (fun _ h => st_pk 8 [0, 5, 6, 7, 1, 2, 3, 4] (by decide) h) (fun _ h => st_pk 8 [0, 4, 5, 6, 7, 1, 2, 3] (by decide) h))) (qc rfl rfl (s_y rfl rfl h86 (o_bin rfl rfl (bW_le x78.End (store_Store_Now r51.2.2)))) (qc rfl rfl (s_u (o_pt rfl h86 rfl)) (qc rfl rfl (s_u (o_mv rfl)) (qc rfl rfl (s_gf rfl rfl fun g => o_mv rfl) (qc rfl rfl (s_gf rfl rfl fun g => o_mv rfl) (qc rfl rfl (s_gf rfl rfl fun g => o_ixO 4 Tryz.underlying44 (fun _ => by kernel_rfl) (evg rfl g) (evg rfl g) rfl hx78) (qc rfl rfl (s_gf rfl rfl fun g => o_fa fa50_2 (evg rfl g)) (qc rfl rfl (s_gf rfl rfl fun g => o_ldO 4 2 sc22 (evg rfl g) rfl hx78 rfl rfl) (qc rfl rfl (s_gf rfl rfl fun g => o_bin (evg rfl g) rfl (bW_lt x78.Version 1)) (qc rfl rfl (s_u (o_or rfl rfl)) qn)))))))))))))))))))))))) en ?_
                    intro _
                    refine ex_sub (E' := [(1, v1_), (5, pt b1 0), (6, pt b36 0), (8, vW r48.2), (9, vI i_18), (12, v62), (13, vI (i64 (bytes_71 + (i64 ((x78.Key.length : Int) + (x78.Value.length : Int)))))), (14, vI k_72), (99, vB (decide (x78.End ≤ (store_Store_Now r51.2.2)) || decide (x78.Version < 1)))]) ⟨rfl, rfl, rfl, rfl, rfl, rfl, rfl, rfl, rfl, trivial⟩ ?_
                    obtain rfl := Option.some.inj hm87
                    exact x_sub K83 ⟨rfl, rfl, rfl, rfl, rfl, rfl, rfl, rfl, rfl, trivial⟩ (fun _ h => st_pk 8 [0, 1, 2, 3, 4, 5, 6, 7] (by decide) h)
                  · have hm87 := iff_ hp81 h86
                    clear hp81
                    refine c_any mixed (effs := []) (V := []) ?_
                    refine stage_ext [(0, v62), (1, vI k_72), (2, pt (sb v62) (so v62 + k_72.toNat * 4)), (3, pt (sb v62) (so v62 + k_72.toNat * 4 + 3)), (4, vW x78.End), (5, vB (x78.End != 0)), (6, vB (x78.End != 0)), (7, undef), (8, undef), (9, undef), (10, undef), (11, undef), (12, undef), (13, undef), (14, undef), (15, vB false), (16, vB false), (17, v62), (18, vI k_72), (19, pt (sb v62) (so v62 + k_72.toNat * 4)), (20, pt (sb v62) (so v62 + k_72.toNat * 4 + 2)), (21, vW x78.Version), (22, vB (decide (x78.Version < 1))), (23, vB (decide (x78.Version < 1)))] rfl ?_
                    refine stage rfl rfl rfl rfl [0, 0, 3, 7, 15, 31, 63, 127, 127, 511, 1023, 2047, 127, 4223, 16383, 32767, 65535, 131071, 131071, 524287, 1048575, 2097151, 4194303, 8388607] [0, 1, 2, 3, 4, 5, 6, 7, 8, 9, 10, 11, 12, 13, 14, 15, 16, 17, 18, 19, 20, 21, 22, 23] [] rfl rfl rfl (qc rfl rfl (s_u (o_mv rfl)) (qc rfl rfl (s_u (o_mv rfl)) (qc rfl rfl (s_u (o_ixO 4 Tryz.underlying44 (fun _ => by kernel_rfl) rfl rfl rfl hx78)) (qc rfl rfl (s_u (o_fa fa50_3 rfl)) (qc rfl rfl (s_u (o_ldO 4 3 sc22 rfl rfl hx78 rfl rfl)) (qc rfl rfl (s_u (o_bin rfl rfl (bW_ne x78.End 0))) (qc rfl rfl (s_u (o_mv rfl)) (qc rfl rfl (s_n rfl rfl h86) (qc rfl rfl (s_n rfl rfl h86) (qc rfl rfl (s_n rfl rfl h86) (qc rfl rfl (s_n rfl rfl h86) (qc rfl rfl (s_n rfl rfl h86) (qc rfl rfl (s_n rfl rfl h86) (qc rfl rfl (s_n rfl rfl h86) (qc rfl rfl (s_n rfl rfl h86) (qc rfl rfl (s_u (o_pf rfl h86 rfl)) (qc rfl rfl (s_u (o_mv rfl)) (qc rfl rfl (s_y rfl rfl rfl (o_mv rfl)) (qc rfl rfl (s_y rfl rfl rfl (o_mv rfl)) (qc rfl rfl (s_y rfl rfl rfl (o_ixO 4 Tryz.underlying44 (fun _ => by kernel_rfl) rfl rfl rfl hx78)) (qc rfl rfl (s_y rfl rfl rfl (o_fa fa50_2 rfl)) (qc rfl rfl (s_y rfl rfl rfl (o_ldO 4 2 sc22 rfl rfl hx78 rfl rfl)) (qc rfl rfl (s_y rfl rfl rfl (o_bin rfl rfl (bW_lt x78.Version 1))) (qc rfl rfl (s_u (o_pf rfl rfl rfl)) qn)))))))))))))))))))))))) en ?_
                    intro _
                    refine ex_sub (E' := [(1, v1_), (5, pt b1 0), (6, pt b36 0), (8, vW r48.2), (9, vI i_18), (12, v62), (13, vI (i64 (bytes_71 + (i64 ((x78.Key.length : Int) + (x78.Value.length : Int)))))), (14, vI k_72), (99, vB (decide (x78.Version < 1)))]) ⟨rfl, rfl, rfl, rfl, rfl, rfl, rfl, rfl, rfl, trivial⟩ ?_
                    obtain rfl := Option.some.inj hm87
                    exact x_sub K83 ⟨rfl, rfl, rfl, rfl, rfl, rfl, rfl, rfl, rfl, trivial⟩ (fun _ h => st_pk 8 [0, 1, 2, 3, 4, 5, 6, 7] (by decide) h)
              · have hm77 := iff_ hm74 h76
                clear hm74
                refine c_exit (x_exit (ks' := _) rfl ?_)
                obtain rfl := Option.some.inj hm77
                exact x_sub (K68 _ rfl) ⟨rfl, rfl, rfl, rfl, rfl, rfl, rfl, trivial⟩ (fun _ h => st_pk 8 [0, 1, 2, 3, 4, 5, 6, 7] (by decide) h)
      · have hm26 := iff_ hm23 h25
        clear hm23
        refine c_exit (x_exit (ks' := _) rfl ?_)
        obtain rfl := Option.some.inj hm26
        exact x_sub (K15 _ rfl) trivial (fun _ h => st_pk 3 [0, 1] (by decide) h)

end Go.Proofs.YtpanhdnglicknaaGreat
