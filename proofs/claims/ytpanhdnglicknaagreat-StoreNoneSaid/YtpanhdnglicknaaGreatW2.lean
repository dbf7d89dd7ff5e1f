import Derived.Test.YtpanhdnglicknaaGreatW1
import Derived.Test.YtpanhdnglicknaaGreatFacts
import Derived.Test.YtpanhdnglicknaaGreatHwZ
set_option linter.unusedVariables false
set_option linter.unusedSectionVars false
set_option linter.unusedSimpArgs false
set_option maxRecDepth 100000
set_option maxHeartbeats 8000000
namespace Go.Proofs.YtpanhdnglicknaaGreat
open Go Go.Proofs.YtpanhdnglicknaaGreat.Hw
def store_Store_put_l0 (a0 : store_Store) : Nat → policy_Policy → Int → (List (Str × api_Entry)) → Option (policy_Policy × Int × (List (Str × api_Entry)))
  | 0, _, _, _ => none
  | k68 + 1, c_58, c_59, c_60 => if decide (a0.c.Bytes < (table_Table_Bytes (⟨c_60, c_59⟩ : table_Table))) then (policy_Policy_Evict c_58).bind fun r73 => if !r73.2.1 then some (r73.2.2, c_59, c_60) else lt (table_Table_Drop (⟨c_60, c_59⟩ : table_Table) r73.1) fun r84 => store_Store_put_l0 a0 k68 r73.2.2 r84.2.bytes r84.2.m else some (c_58, c_59, c_60)
def store_Store_put_l1 (r33 : List Str × policy_Policy) : Nat → Int → Int → (List (Str × api_Entry)) → Option (Int × (List (Str × api_Entry)))
  | 0, _, _, _ => none
  | k89 + 1, s_86, c_87, c_88 => if decide (s_86 < (r33.1.length : Int)) then (gi r33.1 s_86).bind fun x94 => lt (table_Table_Drop (⟨c_88, c_87⟩ : table_Table) x94) fun r96 => store_Store_put_l1 r33 k89 (i64 (s_86 + 1)) r96.2.bytes r96.2.m else some (c_87, c_88)
def store_Store_put (a0 : store_Store) (a1 : api_Op) : Option (api_Reply × store_Store) :=
  if decide (a0.c.Bytes < (i64 ((a1.Key.length : Int) + (a1.Value.length : Int)))) then some ((⟨120, [], 0⟩ : api_Reply), a0) else Option.bind (if (decide (0 < a1.TTL) && decide (a0.now < 18446744073709551615)) then some (a0.now + (if (18446744073709551615 - a0.now) < a1.TTL then 18446744073709551615 - a0.now else a1.TTL)) else some 0) fun p12 => om a0.t (none) fun x16 => lt (table_Table_Put x16 (⟨a1.Key, a1.Value, a0.version + 1, p12⟩ : api_Entry)) fun r21 => om a0.p (none) fun x23 => (policy_Policy_Insert x23 a1.Key).bind fun r33 => Option.bind (store_Store_put_l1 r33 (((r33.1.length : Int) - 0).toNat + 1) 0 r21.bytes r21.m) fun p43 => Option.bind (store_Store_put_l0 a0 1100 r33.2 p43.1 p43.2) fun p47 => some ((⟨0, [], a0.version + 1⟩ : api_Reply), (⟨a0.c, (some (⟨p47.2.2, p47.2.1⟩ : table_Table)), (some p47.1), a0.sessions, a0.seq, a0.now, a0.version + 1, a0.tally⟩ : store_Store))
theorem store_Store_put.ok {G R F} (b0_ : Nat) (a0 : store_Store) (g0_ : store_Store.G) (a1 : api_Op) (r : api_Reply × store_Store) (hm : store_Store_put a0 a1 = some r) : CO Tryz.prog 72 [pt b0_ 0, .agg (api_Op.c a1).toArray] G R (Bk b0_ 96 [vI a0.c.Policy, vI a0.c.Entries, vI a0.c.Bytes, vW a0.c.Seed, g0_.t.1, g0_.p.1, g0_.sessions, vW a0.seq, vW a0.now, vW a0.version, vI a0.tally.Asked, vI a0.tally.Hits] :: rO (table_Table.op g0_.t.2) g0_.t.1 a0.t :: rO (policy_Policy.op g0_.p.2) g0_.p.1 a0.p :: OwM vW store_last.v g0_.sessions a0.sessions :: F)
    (Ret fun u R' L' => ∃ (q0 : store_Store.G), u = .agg (api_Reply.c r.1).toArray ∧ R' = R ∧ L' = Bk b0_ 96 [vI r.2.c.Policy, vI r.2.c.Entries, vI r.2.c.Bytes, vW r.2.c.Seed, q0.t.1, q0.p.1, q0.sessions, vW r.2.seq, vW r.2.now, vW r.2.version, vI r.2.tally.Asked, vI r.2.tally.Hits] :: rO (table_Table.op q0.t.2) q0.t.1 r.2.t :: rO (policy_Policy.op q0.p.2) q0.p.1 r.2.p :: OwM vW store_last.v q0.sessions r.2.sessions :: F) := by
  obtain ⟨⟨pv1, g2⟩, ⟨pv4, g5⟩, g6⟩ := g0_
  unfold store_Store_put at hm
  refine co_ofN (N := 121) Tryz.func72 rfl rfl ?_
  refine c_seq ?_
  refine c_reg ?_
  refine r_new (o_bx (api_Op.c a1) rfl rfl) fun b7 => ?_
  refine r_new (o_al ze41) fun b8 => ?_
  refine r_nil ?_
  refine x_seq ?_
  refine c_seq ?_
  refine c_seq ?_
  refine c_any mixed (effs := []) (V := []) ?_
  refine stage_ext [(0, pt b7 1), (1, vS a1.Key), (2, vI (a1.Key.length : Int)), (3, pt b7 2), (4, vS a1.Value), (5, vI (a1.Value.length : Int)), (6, vI (i64 ((a1.Key.length : Int) + (a1.Value.length : Int)))), (7, pt b0_ 0), (8, pt b0_ 0), (9, pt b0_ 0), (10, pt b0_ 2), (11, vI a0.c.Bytes), (12, vB (decide (a0.c.Bytes < (i64 ((a1.Key.length : Int) + (a1.Value.length : Int))))))] rfl ?_
  refine stage rfl rfl rfl rfl [0, 1, 3, 0, 8, 24, 63, 0, 128, 384, 896, 1920, 4095] [0, 1, 2, 3, 4, 5, 6, 7, 8, 9, 10, 11, 12] [] rfl rfl rfl (qc rfl rfl (s_u (o_fa fa27_1 rfl)) (qc rfl rfl (s_u (o_ld 1 sc9 rfl rfl rfl)) (qc rfl rfl (s_u (o_lenS Tryz.underlying9 rfl)) (qc rfl rfl (s_u (o_fa fa27_2 rfl)) (qc rfl rfl (s_u (o_ld 1 sc9 rfl rfl rfl)) (qc rfl rfl (s_u (o_lenS Tryz.underlying9 rfl)) (qc rfl rfl (s_u (o_bin rfl rfl (bI_add (a1.Key.length : Int) (a1.Value.length : Int)))) (qc rfl rfl (s_u (o_mv rfl)) (qc rfl rfl (s_u (o_nc rfl)) (qc rfl rfl (s_u (o_fa fa96_0 rfl)) (qc rfl rfl (s_u (o_fa fa24_2 rfl)) (qc rfl rfl (s_u (o_ld 2 sc3 rfl rfl rfl)) (qc rfl rfl (s_u (o_bin rfl rfl (bI_gt (i64 ((a1.Key.length : Int) + (a1.Value.length : Int))) a0.c.Bytes))) qn))))))))))))) en ?_
  intro _
  refine ex_sub (E' := [(0, pt b0_ 0), (3, pt b7 0), (4, pt b8 0), (22, vB (decide (a0.c.Bytes < (i64 ((a1.Key.length : Int) + (a1.Value.length : Int))))))]) ⟨rfl, rfl, rfl, rfl, trivial⟩ ?_
  refine x_seq ?_
  refine c_if (b := decide (a0.c.Bytes < (i64 ((a1.Key.length : Int) + (a1.Value.length : Int))))) rfl (fun h9 => ?_) fun h9 => ?_
  · have hm10 := ift hm h9
    clear hm
    refine c_seq ?_
    refine c_reg ?_
    refine r_u (o_bld [vI 120, vS [], vW 0] rfl (fun _ => by kernel_rfl)) ?_
    refine r_u0 (o_stn ag41 rfl rfl rfl rfl rfl rfl rfl) ?_
    refine r_nil ?_
    refine x_seq ?_
    refine c_ret ?_
    obtain rfl := Option.some.inj hm10
    exact x_d1 rfl (rv_n 0 [vI 120, vS [], vW 0] ag41 rfl rfl rfl rfl) (fun _ h => st_pk 6 [2, 3, 4, 5] (by decide) h) (Le.refl _) ⟨_, rfl, (⟨(pv1, g2), (pv4, g5), g6⟩ : store_Store.G), rfl, rfl, rfl⟩
  · have hm10 := iff_ hm h9
    clear hm
    refine c_skip ?_
    refine x_seq ?_
    refine c_seq ?_
    refine c_reg ?_
    refine r_u (o_mv rfl) ?_
    refine r_u (o_nc rfl) ?_
    refine r_u (o_fa fa96_6 rfl) ?_
    refine r_u (o_ld 2 sc22 rfl rfl rfl) ?_
    refine r_u (o_bin rfl rfl (bW_add a0.version 1)) ?_
    refine r_u (o_nc rfl) ?_
    refine r_u (o_fa fa96_6 rfl) ?_
    refine rl_st (fun _ h => mv2 h) ?_
    refine r_u0 (o_st sc22 rfl rfl rfl rfl rfl rfl) ?_
    refine r_nil ?_
    refine x_seq ?_
    refine c_seq ?_
    refine c_any mixed (effs := [9, 10]) (V := []) ?_
    refine stage_ext [(0, pt b7 1), (1, vS a1.Key), (2, pt b7 2), (3, vS a1.Value), (4, pt b0_ 0), (5, pt b0_ 0), (6, pt b0_ 9), (7, vW (a0.version + 1)), (8, .agg [vS a1.Key, vS a1.Value, vW (a0.version + 1), vW 0].toArray)] rfl ?_
    refine stage rfl rfl rfl rfl [0, 1, 0, 4, 0, 16, 48, 112, 255, 0, 1023] [0, 1, 2, 3, 4, 5, 6, 7, 8] [9] rfl rfl rfl (qc rfl rfl (s_u (o_fa fa27_1 rfl)) (qc rfl rfl (s_u (o_ld 2 sc9 rfl rfl rfl)) (qc rfl rfl (s_u (o_fa fa27_2 rfl)) (qc rfl rfl (s_u (o_ld 2 sc9 rfl rfl rfl)) (qc rfl rfl (s_u (o_mv rfl)) (qc rfl rfl (s_u (o_nc rfl)) (qc rfl rfl (s_u (o_fa fa96_6 rfl)) (qc rfl rfl (s_u (o_ld 0 sc22 rfl rfl rfl)) (qc rfl rfl (s_u (o_bld [vS a1.Key, vS a1.Value, vW (a0.version + 1), vW 0] rfl (fun _ => by kernel_rfl))) qn))))))))) ?_ (fun h => absurd h (by decide))
    refine ec (eo_n rfl (s_w (o_al ze50)) fun b11 => ?_) en
    refine stage rfl rfl rfl rfl [0, 1, 0, 4, 0, 16, 48, 112, 255, 0, 1023] [0, 1, 2, 3, 4, 5, 6, 7, 8] [10] rfl rfl rfl (qc rfl rfl (s_u (o_fa fa27_1 rfl)) (qc rfl rfl (s_u (o_ld 3 sc9 rfl rfl rfl)) (qc rfl rfl (s_u (o_fa fa27_2 rfl)) (qc rfl rfl (s_u (o_ld 3 sc9 rfl rfl rfl)) (qc rfl rfl (s_u (o_mv rfl)) (qc rfl rfl (s_u (o_nc rfl)) (qc rfl rfl (s_u (o_fa fa96_6 rfl)) (qc rfl rfl (s_u (o_ld 1 sc22 rfl rfl rfl)) (qc rfl rfl (s_u (o_bld [vS a1.Key, vS a1.Value, vW (a0.version + 1), vW 0] rfl (fun _ => by kernel_rfl))) qn))))))))) ?_ (fun h => absurd h (by decide))
    refine ec (eo_u rfl (s_u (o_stn ag50 rfl rfl rfl rfl rfl rfl rfl)) (Le.refl _) ?_) en
    refine stage rfl rfl rfl rfl [0, 1, 0, 4, 0, 16, 48, 112, 255, 0, 1023] [] [] rfl rfl rfl qn en ?_
    intro _
    refine ex_sub (E' := [(0, pt b0_ 0), (3, pt b7 0), (4, pt b8 0), (5, pt b11 0)]) ⟨rfl, rfl, rfl, rfl, trivial⟩ ?_
    refine x_seq ?_
    refine c_seq ?_
    refine c_seq ?_
    refine c_reg ?_
    refine r_u (o_fa fa27_3 rfl) ?_
    refine r_u (o_ld 3 sc22 rfl rfl rfl) ?_
    refine r_u (o_bin rfl rfl (bW_gt a1.TTL 0)) ?_
    refine r_u (o_mv rfl) ?_
    refine r_s (s_gt rfl rfl fun g => o_mv rfl) ?_
    refine r_s (s_gt rfl rfl fun g => o_nc (evg rfl g)) ?_
    refine r_s (s_gt rfl rfl fun g => o_fa fa96_5 (evg rfl g)) ?_
    refine r_s (s_gt rfl rfl fun g => o_ld 1 sc22 (evg rfl g) rfl rfl) ?_
    refine r_s (s_gt rfl rfl fun g => o_bin (evg rfl g) rfl (bW_lt a0.now 18446744073709551615)) ?_
    refine r_u (o_and rfl rfl) ?_
    refine r_nil ?_
    refine x_seq ?_
    obtain ⟨p12, hp13, hm14⟩ := bs hm10
    refine cd_join (E' := [(0, pt b0_ 0), (3, pt b7 0), (4, pt b8 0), (5, pt b11 0)]) (L' := Bk b11 50 [vS a1.Key, vS a1.Value, vW (a0.version + 1), vW p12] :: Bk b0_ 96 [vI a0.c.Policy, vI a0.c.Entries, vI a0.c.Bytes, vW a0.c.Seed, pv1, pv4, g6, vW a0.seq, vW a0.now, vW (a0.version + 1), vI a0.tally.Asked, vI a0.tally.Hits] :: Bk b8 41 [vI 0, vS [], vW 0] :: Bk b7 27 (api_Op.c a1) :: rO (table_Table.op g2) pv1 a0.t :: rO (policy_Policy.op g5) pv4 a0.p :: OwM vW store_last.v g6 a0.sessions :: F) ?_ fun K15 => ?_
    · refine x_seq ?_
      refine c_seq ?_
      refine cd_st (fun _ h => mv4 h) ?_
      refine cd_opt (fun ho18 => ?_) (fun x16 b17 ho18 => ?_)
      · rintro rfl
        have hm19 := om_n hm14 ho18
        clear hm14
        cases hm19
      · rintro rfl
        have hm19 := om_s hm14 ho18
        clear hm14
        refine cd_st (fun _ h => st_star_o h) ?_
        obtain ⟨r21, hr21, hm22⟩ := ltx hm19
        clear hm19
        refine c_any mixed (effs := [5]) (V := []) ?_
        refine stage_ext [(0, pt b0_ 0), (1, pt b0_ 0), (2, pt b0_ 4), (3, pt b17 0), (4, .agg [vS a1.Key, vS a1.Value, vW (a0.version + 1), vW p12].toArray)] rfl ?_
        refine stage rfl rfl rfl rfl [0, 1, 3, 7, 0, 31] [0, 1, 2, 3, 4] [5] rfl rfl rfl (qc rfl rfl (s_u (o_mv rfl)) (qc rfl rfl (s_u (o_nc rfl)) (qc rfl rfl (s_u (o_fa fa96_1 rfl)) (qc rfl rfl (s_u (o_ld 3 sc92 rfl rfl rfl)) (qc rfl rfl (s_u (o_ldn 2 [vS a1.Key, vS a1.Value, vW (a0.version + 1), vW p12] ag50 rfl rfl rfl rfl)) qn))))) ?_ (fun h => absurd h (by decide))
        refine ec (eo_c rfl (s_w (o_call ca122 rfl (table_Table_Put.ok b17 x16 g2 (⟨a1.Key, a1.Value, a0.version + 1, p12⟩ : api_Entry) r21 hr21))) ?_) en
        refine stage rfl rfl rfl rfl [0, 1, 3, 7, 0, 31] [] [] rfl rfl rfl qn en ?_
        intro _
        refine ex_sub (E' := [(0, pt b0_ 0), (3, pt b7 0), (4, pt b8 0)]) ⟨rfl, rfl, rfl, trivial⟩ ?_
        refine x_seq ?_
        refine c_seq ?_
        refine c_seq ?_
        refine cd_st (fun _ h => mv6 h) ?_
        refine cd_opt (fun ho25 => ?_) (fun x23 b24 ho25 => ?_)
        · rintro rfl
          have hm26 := om_n hm22 ho25
          clear hm22
          cases hm26
        · rintro rfl
          have hm26 := om_s hm22 ho25
          clear hm22
          obtain ⟨⟨pv28, g29⟩, ⟨pv31, g32⟩⟩ := g5
          refine cd_st (fun _ h => st_star_o h) ?_
          obtain ⟨r33, hr33, hm42⟩ := bs hm26
          clear hm26
          refine c_any mixed (effs := [6]) (V := []) ?_
          refine stage_ext [(0, pt b0_ 0), (1, pt b0_ 0), (2, pt b0_ 5), (3, pt b24 0), (4, pt b7 1), (5, vS a1.Key), (8, vI 0)] rfl ?_
          refine stage rfl rfl rfl rfl [0, 1, 3, 7, 0, 16, 63, 127, 0] [0, 1, 2, 3, 4, 5, 8] [6] rfl rfl rfl (qc rfl rfl (s_u (o_mv rfl)) (qc rfl rfl (s_u (o_nc rfl)) (qc rfl rfl (s_u (o_fa fa96_2 rfl)) (qc rfl rfl (s_u (o_ld 6 sc93 rfl rfl rfl)) (qc rfl rfl (s_u (o_fa fa27_1 rfl)) (qc rfl rfl (s_u (o_ld 8 sc9 rfl rfl rfl)) (qc rfl rfl (s_u (o_mv rfl)) qn))))))) ?_ (fun h => absurd h (by decide))
          refine ec (eo_w rfl (s_w (o_call ca123 rfl (policy_Policy_Insert.ok b24 x23 (⟨(pv28, g29), (pv31, g32)⟩ : policy_Policy.G) a1.Key r33 hr33))) ?_) en
          rintro v34 R _ _ ⟨_, ⟨⟨pv37, g38⟩, ⟨pv40, g41⟩⟩, rfl, rfl, rfl⟩
          refine stage_ext [(7, vI (r33.1.length : Int))] rfl ?_
          refine stage rfl rfl rfl rfl [0, 1, 3, 7, 0, 16, 63, 127, 0] [7, 8] [] rfl rfl rfl (qc rfl rfl (s_u (o_lenO 0 Tryz.underlying98 rfl rfl)) (qc rfl rfl (s_u (o_mv rfl)) qn)) en ?_
          intro _
          refine ex_sub (E' := [(0, pt b0_ 0), (4, pt b8 0), (76, v34), (77, vI (r33.1.length : Int)), (78, vI 0)]) ⟨rfl, rfl, rfl, rfl, rfl, trivial⟩ ?_
          refine x_seq ?_
          obtain ⟨p43, hp44, hm45⟩ := bs hm42
          refine cd_join (E' := [(0, pt b0_ 0), (4, pt b8 0)]) (L' := Bk b24 144 [vI r33.2.kind, pv37, pv40] :: Bk b17 138 [g2.m, vI p43.1] :: Bk b11 50 [vS a1.Key, vS a1.Value, vW (a0.version + 1), vW p12] :: Bk b0_ 96 [vI a0.c.Policy, vI a0.c.Entries, vI a0.c.Bytes, vW a0.c.Seed, pt b17 0, pt b24 0, g6, vW a0.seq, vW a0.now, vW (a0.version + 1), vI a0.tally.Asked, vI a0.tally.Hits] :: Bk b8 41 [vI 0, vS [], vW 0] :: Bk b7 27 (api_Op.c a1) :: OwS true 9 1 eS v34 r33.1 :: rO (arc_Arc.op g38) pv37 r33.2.a :: rO (tiny_Tiny.op g41) pv40 r33.2.t :: OwM vS api_Entry.v g2.m p43.2 :: OwM vW store_last.v g6 a0.sessions :: F) ?_ fun K46 => ?_
          · refine x_seq ?_
            refine c_seq ?_
            obtain ⟨p47, hp55, hm56⟩ := bs hm45
            refine cd_cut (fun x ks => ∀ (g48 : policy_Policy.G), EX x .normal ks [(0, pt b0_ 0), (4, pt b8 0)] R (Bk b24 144 [vI p47.1.kind, g48.a.1, g48.t.1] :: Bk b17 138 [g2.m, vI p47.2.1] :: Bk b11 50 [vS a1.Key, vS a1.Value, vW (a0.version + 1), vW p12] :: Bk b0_ 96 [vI a0.c.Policy, vI a0.c.Entries, vI a0.c.Bytes, vW a0.c.Seed, pt b17 0, pt b24 0, g6, vW a0.seq, vW a0.now, vW (a0.version + 1), vI a0.tally.Asked, vI a0.tally.Hits] :: Bk b8 41 [vI 0, vS [], vW 0] :: Bk b7 27 (api_Op.c a1) :: OwS true 9 1 eS v34 r33.1 :: OwM vS api_Entry.v g2.m p47.2.2 :: OwM vW store_last.v g6 a0.sessions :: rO (arc_Arc.op g48.a.2) g48.a.1 p47.1.a :: rO (tiny_Tiny.op g48.t.2) g48.t.1 p47.1.t :: F)) ?_ fun K57 => ?_
            · intro g48
              obtain ⟨⟨pv50, g51⟩, ⟨pv53, g54⟩⟩ := g48
              refine x_seq ?_
              refine c_seq ?_
              refine c_reg ?_
              refine r_u (o_mv rfl) ?_
              refine r_u (o_nc rfl) ?_
              refine r_u (o_fa fa96_6 rfl) ?_
              refine r_u (o_ld 3 sc22 rfl rfl rfl) ?_
              refine r_u (o_bld [vI 0, vS [], vW (a0.version + 1)] rfl (fun _ => by kernel_rfl)) ?_
              refine rl_st (fun _ h => mv4 h) ?_
              refine r_u0 (o_stn ag41 rfl rfl rfl rfl rfl rfl rfl) ?_
              refine r_nil ?_
              refine x_seq ?_
              refine c_ret ?_
              refine ex_st (fun _ h => mv3 (mv7 h)) ?_
              refine ex_st (fun _ h => st_some (f := table_Table.op g2) (a := (⟨p47.2.2, p47.2.1⟩ : table_Table)) (st_star_f (A := table_Table.fl b17 (⟨p47.2.2, p47.2.1⟩ : table_Table) g2) h)) ?_
              refine ex_st (fun _ h => mv4 (mv9 (mv9 h))) ?_
              refine ex_st (fun _ h => st_some (f := policy_Policy.op (⟨(pv50, g51), (pv53, g54)⟩ : policy_Policy.G)) (a := p47.1) (st_star_f (A := policy_Policy.fl b24 p47.1 (⟨(pv50, g51), (pv53, g54)⟩ : policy_Policy.G)) h)) ?_
              obtain rfl := Option.some.inj hm56
              exact x_d1 rfl (rv_n 2 [vI 0, vS [], vW (a0.version + 1)] ag41 rfl rfl rfl rfl) (fun _ h => st_pk 8 [4, 1, 0, 7] (by decide) h) (Le.refl _) ⟨_, rfl, (⟨(pt b17 0, g2), (pt b24 0, (⟨(pv50, g51), (pv53, g54)⟩ : policy_Policy.G)), g6⟩ : store_Store.G), rfl, rfl, rfl⟩
            · refine c_blk ?_
              refine cd_loopG (M := fun k68 (s : policy_Policy × Int × (List (Str × api_Entry)) × policy_Policy.G) => store_Store_put_l0 a0 k68 s.1 s.2.1 s.2.2.1 = some p47) (Ef := fun (s : policy_Policy × Int × (List (Str × api_Entry)) × policy_Policy.G) => [(0, pt b0_ 0), (4, pt b8 0)]) (Rf := fun (s : policy_Policy × Int × (List (Str × api_Entry)) × policy_Policy.G) => R) (Lf := fun (s : policy_Policy × Int × (List (Str × api_Entry)) × policy_Policy.G) => Bk b24 144 [vI s.1.kind, s.2.2.2.a.1, s.2.2.2.t.1] :: Bk b17 138 [g2.m, vI s.2.1] :: Bk b11 50 [vS a1.Key, vS a1.Value, vW (a0.version + 1), vW p12] :: Bk b0_ 96 [vI a0.c.Policy, vI a0.c.Entries, vI a0.c.Bytes, vW a0.c.Seed, pt b17 0, pt b24 0, g6, vW a0.seq, vW a0.now, vW (a0.version + 1), vI a0.tally.Asked, vI a0.tally.Hits] :: Bk b8 41 [vI 0, vS [], vW 0] :: Bk b7 27 (api_Op.c a1) :: OwS true 9 1 eS v34 r33.1 :: OwM vS api_Entry.v g2.m s.2.2.1 :: OwM vW store_last.v g6 a0.sessions :: rO (arc_Arc.op s.2.2.2.a.2) s.2.2.2.a.1 s.1.a :: rO (tiny_Tiny.op s.2.2.2.t.2) s.2.2.2.t.1 s.1.t :: F) 1100 (r33.2, p43.1, p43.2, (⟨(pv37, g38), (pv40, g41)⟩ : policy_Policy.G)) hp55 ⟨rfl, rfl, trivial⟩ (fun _ h => st_pk 11 [0, 1, 2, 3, 4, 5, 6, 9, 10, 7, 8] (by decide) h) (fun _ h => by cases h) fun k68 s hM70 => ?_
              obtain ⟨c_58, c_59, c_60, g61⟩ := s
              have hm69 : store_Store_put_l0 a0 (k68 + 1) c_58 c_59 c_60 = some p47 := hM70
              rw [store_Store_put_l0] at hm69
              obtain ⟨⟨pv63, g64⟩, ⟨pv66, g67⟩⟩ := g61
              refine c_seq ?_
              refine c_seq ?_
              refine c_any mixed (effs := []) (V := []) ?_
              refine stage_ext [(0, pt b0_ 0), (1, pt b0_ 0), (2, pt b0_ 4), (3, pt b17 0), (4, vI (table_Table_Bytes (⟨c_60, c_59⟩ : table_Table))), (5, pt b0_ 0), (6, pt b0_ 0), (7, pt b0_ 0), (8, pt b0_ 2), (9, vI a0.c.Bytes), (10, vB (decide (a0.c.Bytes < (table_Table_Bytes (⟨c_60, c_59⟩ : table_Table)))))] rfl ?_
              refine stage rfl rfl rfl rfl [0, 1, 3, 7, 15, 0, 32, 96, 224, 480, 1023] [0, 1, 2, 3, 4, 5, 6, 7, 8, 9, 10] [] rfl rfl rfl (qc rfl rfl (s_u (o_mv rfl)) (qc rfl rfl (s_u (o_nc rfl)) (qc rfl rfl (s_u (o_fa fa96_1 rfl)) (qc rfl rfl (s_u (o_ld 3 sc92 rfl rfl rfl)) (qc rfl rfl (s_u (o_callqP ca107 rfl (table_Table_Bytes.ok b17 (⟨c_60, c_59⟩ : table_Table) g2 _ rfl) (fun _ h => st_pk 11 [1, 7, 0, 2, 3, 4, 5, 6, 8, 9, 10] (by decide) h) (fun _ h => st_pk 11 [2, 0, 3, 4, 5, 6, 7, 1, 8, 9, 10] (by decide) h))) (qc rfl rfl (s_u (o_mv rfl)) (qc rfl rfl (s_u (o_nc rfl)) (qc rfl rfl (s_u (o_fa fa96_0 rfl)) (qc rfl rfl (s_u (o_fa fa24_2 rfl)) (qc rfl rfl (s_u (o_ld 3 sc3 rfl rfl rfl)) (qc rfl rfl (s_u (o_bin rfl rfl (bI_gt (table_Table_Bytes (⟨c_60, c_59⟩ : table_Table)) a0.c.Bytes))) qn))))))))))) en ?_
              intro _
              refine ex_sub (E' := [(0, pt b0_ 0), (4, pt b8 0), (99, vB (decide (a0.c.Bytes < (table_Table_Bytes (⟨c_60, c_59⟩ : table_Table)))))]) ⟨rfl, rfl, rfl, trivial⟩ ?_
              refine x_seq ?_
              refine c_if (b := decide (a0.c.Bytes < (table_Table_Bytes (⟨c_60, c_59⟩ : table_Table)))) rfl (fun h71 => ?_) fun h71 => ?_
              · have hm72 := ift hm69 h71
                clear hm69
                refine c_skip ?_
                refine x_seq ?_
                refine c_blk ?_
                refine c_seq ?_
                refine c_reg ?_
                refine r_u (o_mv rfl) ?_
                refine r_u (o_nc rfl) ?_
                refine r_u (o_fa fa96_2 rfl) ?_
                refine r_u (o_ld 3 sc93 rfl rfl rfl) ?_
                obtain ⟨r73, hr73, hm81⟩ := bs hm72
                clear hm72
                refine rl_st (fun _ h => mv2 (mv10 (mv10 h))) ?_
                refine r_sw (s_w (o_call ca124 rfl (policy_Policy_Evict.ok b24 c_58 (⟨(pv63, g64), (pv66, g67)⟩ : policy_Policy.G) r73 hr73))) ?_
                rintro _ R _ _ ⟨⟨⟨pv76, g77⟩, ⟨pv79, g80⟩⟩, rfl, rfl, rfl⟩
                refine r_u (o_mv rfl) ?_
                refine r_u (o_ext rfl rfl) ?_
                refine r_u (o_ext rfl rfl) ?_
                refine r_u (o_as rfl) ?_
                refine r_u (o_as rfl) ?_
                refine r_nil ?_
                refine x_seq ?_
                refine c_seq ?_
                refine c_seq ?_
                refine c_reg ?_
                refine r_u (o_mv rfl) ?_
                refine r_u (o_not rfl) ?_
                refine r_nil ?_
                refine x_seq ?_
                refine c_if (b := !r73.2.1) rfl (fun h82 => ?_) fun h82 => ?_
                · have hm83 := ift hm81 h82
                  clear hm81
                  refine c_exit (x_exit (ks' := _) rfl ?_)
                  obtain rfl := Option.some.inj hm83
                  exact x_sub (K57 (⟨(pv76, g77), (pv79, g80)⟩ : policy_Policy.G)) ⟨rfl, rfl, trivial⟩ (fun _ h => st_pk 11 [0, 3, 4, 5, 6, 7, 8, 9, 10, 1, 2] (by decide) h)
                · have hm83 := iff_ hm81 h82
                  clear hm81
                  refine c_skip ?_
                  refine x_seq ?_
                  refine c_reg ?_
                  refine r_u (o_mv rfl) ?_
                  refine r_u (o_nc rfl) ?_
                  refine r_u (o_fa fa96_1 rfl) ?_
                  refine r_u (o_ld 5 sc92 rfl rfl rfl) ?_
                  refine r_u (o_mv rfl) ?_
                  obtain ⟨r84, hr84, hm85⟩ := ltx hm83
                  clear hm83
                  refine rl_st (fun _ h => mv4 (mv9 h)) ?_
                  refine r_c (s_w (o_call ca36 rfl (table_Table_Drop.ok b17 (⟨c_60, c_59⟩ : table_Table) g2 r73.1 r84 hr84))) ?_
                  refine r_nil ?_
                  refine x_blk ?_
                  exact x_lp (r73.2.2, r84.2.bytes, r84.2.m, (⟨(pv76, g77), (pv79, g80)⟩ : policy_Policy.G)) hm85 ⟨rfl, rfl, trivial⟩ (fun _ h => st_pk 11 [2, 0, 5, 6, 7, 8, 9, 1, 10, 3, 4] (by decide) h)
              · have hm72 := iff_ hm69 h71
                clear hm69
                refine c_exit (x_exit (ks' := _) rfl ?_)
                obtain rfl := Option.some.inj hm72
                exact x_sub (K57 (⟨(pv63, g64), (pv66, g67)⟩ : policy_Policy.G)) ⟨rfl, rfl, trivial⟩ (fun _ h => st_pk 11 [0, 1, 2, 3, 4, 5, 6, 7, 8, 9, 10] (by decide) h)
          · refine c_blk ?_
            refine cd_loop (M := fun k89 (s : Int × Int × (List (Str × api_Entry))) => store_Store_put_l1 r33 k89 s.1 s.2.1 s.2.2 = some p43) (Ef := fun (s : Int × Int × (List (Str × api_Entry))) => [(0, pt b0_ 0), (4, pt b8 0), (76, v34), (77, vI (r33.1.length : Int)), (78, vI s.1)]) (Lf := fun (s : Int × Int × (List (Str × api_Entry))) => Bk b24 144 [vI r33.2.kind, pv37, pv40] :: Bk b17 138 [g2.m, vI s.2.1] :: Bk b11 50 [vS a1.Key, vS a1.Value, vW (a0.version + 1), vW p12] :: Bk b0_ 96 [vI a0.c.Policy, vI a0.c.Entries, vI a0.c.Bytes, vW a0.c.Seed, pt b17 0, pt b24 0, g6, vW a0.seq, vW a0.now, vW (a0.version + 1), vI a0.tally.Asked, vI a0.tally.Hits] :: Bk b8 41 [vI 0, vS [], vW 0] :: Bk b7 27 (api_Op.c a1) :: OwS true 9 1 eS v34 r33.1 :: rO (arc_Arc.op g38) pv37 r33.2.a :: rO (tiny_Tiny.op g41) pv40 r33.2.t :: OwM vS api_Entry.v g2.m s.2.2 :: OwM vW store_last.v g6 a0.sessions :: F) (((r33.1.length : Int) - 0).toNat + 1) (0, r21.bytes, r21.m) hp44 ⟨rfl, rfl, rfl, rfl, rfl, trivial⟩ (fun _ h => st_pk 11 [1, 4, 6, 7, 8, 9, 0, 2, 3, 5, 10] (by decide) h) (fun _ h => by cases h) fun k89 s hM91 => ?_
            obtain ⟨s_86, c_87, c_88⟩ := s
            have hm90 : store_Store_put_l1 r33 (k89 + 1) s_86 c_87 c_88 = some p43 := hM91
            rw [store_Store_put_l1] at hm90
            refine c_seq ?_
            refine c_reg ?_
            refine r_u (o_bin rfl rfl (bI_lt s_86 (r33.1.length : Int))) ?_
            refine r_nil ?_
            refine x_seq ?_
            refine c_seq ?_
            refine c_if (b := decide (s_86 < (r33.1.length : Int))) rfl (fun h92 => ?_) fun h92 => ?_
            · have hm93 := ift hm90 h92
              clear hm90
              refine c_skip ?_
              refine x_seq ?_
              refine c_seq ?_
              refine c_blk ?_
              refine c_seq ?_
              refine c_reg ?_
              obtain ⟨x94, hx94, hm95⟩ := bs hm93
              clear hm93
              refine r_u (o_ixO 6 Tryz.underlying98 (fun _ => by kernel_rfl) rfl rfl rfl hx94) ?_
              refine r_u (o_ldO0 6 sc9 rfl rfl hx94 rfl rfl) ?_
              refine r_u (o_as rfl) ?_
              refine r_nil ?_
              refine x_seq ?_
              refine c_reg ?_
              refine r_u (o_mv rfl) ?_
              refine r_u (o_nc rfl) ?_
              refine r_u (o_fa fa96_1 rfl) ?_
              refine r_u (o_ld 3 sc92 rfl rfl rfl) ?_
              refine r_u (o_mv rfl) ?_
              obtain ⟨r96, hr96, hm97⟩ := ltx hm95
              clear hm95
              refine rl_st (fun _ h => mv2 (mv9 h)) ?_
              refine r_c (s_w (o_call ca36 rfl (table_Table_Drop.ok b17 (⟨c_88, c_87⟩ : table_Table) g2 x94 r96 hr96))) ?_
              refine r_nil ?_
              refine x_blk ?_
              refine x_seq ?_
              refine c_reg ?_
              refine r_u (o_bin rfl rfl (bI_add s_86 1)) ?_
              refine r_u (o_mv rfl) ?_
              refine r_nil ?_
              exact x_lp (i64 (s_86 + 1), r96.2.bytes, r96.2.m) hm97 ⟨rfl, rfl, rfl, rfl, rfl, trivial⟩ (fun _ h => st_pk 11 [2, 0, 3, 4, 5, 6, 7, 8, 9, 1, 10] (by decide) h)
            · have hm93 := iff_ hm90 h92
              clear hm90
              refine c_exit (x_exit (ks' := _) rfl ?_)
              obtain rfl := Option.some.inj hm93
              exact x_sub K46 ⟨rfl, rfl, trivial⟩ (fun _ h => st_pk 11 [0, 1, 2, 3, 4, 5, 6, 7, 8, 9, 10] (by decide) h)
    · refine c_if (b := (decide (0 < a1.TTL) && decide (a0.now < 18446744073709551615))) rfl (fun h98 => ?_) fun h98 => ?_
      · have hm99 := ift hp13 h98
        clear hp13
        refine c_any mixed (effs := [14]) (V := []) ?_
        refine stage_ext [(0, pt b0_ 0), (1, pt b0_ 0), (2, pt b0_ 8), (3, vW a0.now), (4, pt b7 3), (5, vW a1.TTL), (6, pt b0_ 0), (7, pt b0_ 0), (8, pt b0_ 8), (9, vW a0.now), (10, vW (18446744073709551615 - a0.now)), (11, vW (if (18446744073709551615 - a0.now) < a1.TTL then 18446744073709551615 - a0.now else a1.TTL)), (12, vW (a0.now + (if (18446744073709551615 - a0.now) < a1.TTL then 18446744073709551615 - a0.now else a1.TTL))), (13, pt b11 3)] rfl ?_
        refine stage rfl rfl rfl rfl [0, 1, 3, 7, 0, 16, 0, 64, 192, 448, 960, 2032, 4095, 8191, 16383] [0, 1, 2, 3, 4, 5, 6, 7, 8, 9, 10, 11, 12, 13] [14] rfl rfl rfl (qc rfl rfl (s_u (o_mv rfl)) (qc rfl rfl (s_u (o_nc rfl)) (qc rfl rfl (s_u (o_fa fa96_5 rfl)) (qc rfl rfl (s_u (o_ld 1 sc22 rfl rfl rfl)) (qc rfl rfl (s_u (o_fa fa27_3 rfl)) (qc rfl rfl (s_u (o_ld 3 sc22 rfl rfl rfl)) (qc rfl rfl (s_u (o_mv rfl)) (qc rfl rfl (s_u (o_nc rfl)) (qc rfl rfl (s_u (o_fa fa96_5 rfl)) (qc rfl rfl (s_u (o_ld 1 sc22 rfl rfl rfl)) (qc rfl rfl (s_u (o_bin rfl rfl (bW_sub 18446744073709551615 a0.now))) (qc rfl rfl (s_u (o_minW rfl rfl)) (qc rfl rfl (s_u (o_bin rfl rfl (bW_add a0.now (if (18446744073709551615 - a0.now) < a1.TTL then 18446744073709551615 - a0.now else a1.TTL)))) (qc rfl rfl (s_u (o_fa fa50_3 rfl)) qn)))))))))))))) ?_ (fun h => absurd h (by decide))
        refine ec (eo_u rfl (s_u (o_st sc22 rfl rfl rfl rfl rfl rfl)) (Le.refl _) ?_) en
        refine stage rfl rfl rfl rfl [0, 1, 3, 7, 0, 16, 0, 64, 192, 448, 960, 2032, 4095, 8191, 16383] [] [] rfl rfl rfl qn en ?_
        intro _
        refine ex_sub (E' := [(0, pt b0_ 0), (3, pt b7 0), (4, pt b8 0), (5, pt b11 0)]) ⟨rfl, rfl, rfl, rfl, trivial⟩ ?_
        obtain rfl := Option.some.inj hm99
        exact x_sub K15 ⟨rfl, rfl, rfl, rfl, trivial⟩ (fun _ h => st_pk 7 [0, 1, 2, 3, 4, 5, 6] (by decide) h)
      · have hm99 := iff_ hp13 h98
        clear hp13
        refine c_skip ?_
        obtain rfl := Option.some.inj hm99
        exact x_sub K15 ⟨rfl, rfl, rfl, rfl, trivial⟩ (fun _ h => st_pk 7 [0, 1, 2, 3, 4, 5, 6] (by decide) h)

def store_Store_do (a0 : store_Store) (a1 : api_Op) : Option (api_Reply × store_Store) :=
  om a0.t (none) fun x9 => lt (table_Table_Get x9 a1.Key) fun r14 => if (a1.Kind == 1) then if !r14.2 then om a0.p (none) fun x21 => (policy_Policy_Miss x21 a1.Key).bind fun r31 => some ((⟨2, [], 0⟩ : api_Reply), (⟨a0.c, a0.t, (some r31), a0.sessions, a0.seq, a0.now, a0.version, (⟨i64 (a0.tally.Asked + 1), a0.tally.Hits⟩ : api_Tally)⟩ : store_Store)) else om a0.p (none) fun x33 => (policy_Policy_Touch x33 a1.Key).bind fun r43 => some ((⟨0, r14.1.Value, r14.1.Version⟩ : api_Reply), (⟨a0.c, a0.t, (some r43.2), a0.sessions, a0.seq, a0.now, a0.version, (⟨i64 (a0.tally.Asked + 1), i64 (a0.tally.Hits + 1)⟩ : api_Tally)⟩ : store_Store)) else if (a1.Kind == 3) then if !r14.2 then some ((⟨2, [], 0⟩ : api_Reply), a0) else lt (table_Table_Drop x9 a1.Key) fun r56 => om a0.p (none) fun x58 => (policy_Policy_Remove x58 a1.Key).bind fun r68 => some ((⟨0, [], r14.1.Version⟩ : api_Reply), (⟨a0.c, (some r56.2), (some r68.2), a0.sessions, a0.seq, a0.now, a0.version, a0.tally⟩ : store_Store)) else if (a1.Kind == 4) then if !r14.2 then some ((⟨2, [], 0⟩ : api_Reply), a0) else if (r14.1.Version != a1.Version) then some ((⟨121, [], r14.1.Version⟩ : api_Reply), a0) else (store_Store_put (⟨a0.c, (some x9), a0.p, a0.sessions, a0.seq, a0.now, a0.version, a0.tally⟩ : store_Store) a1).bind fun r83 => some (r83.1, r83.2) else (store_Store_put (⟨a0.c, (some x9), a0.p, a0.sessions, a0.seq, a0.now, a0.version, a0.tally⟩ : store_Store) a1).bind fun r93 => some (r93.1, r93.2)
theorem store_Store_do.ok {G R F} (b0_ : Nat) (a0 : store_Store) (g0_ : store_Store.G) (a1 : api_Op) (r : api_Reply × store_Store) (hm : store_Store_do a0 a1 = some r) : CO Tryz.prog 38 [pt b0_ 0, .agg (api_Op.c a1).toArray] G R (Bk b0_ 96 [vI a0.c.Policy, vI a0.c.Entries, vI a0.c.Bytes, vW a0.c.Seed, g0_.t.1, g0_.p.1, g0_.sessions, vW a0.seq, vW a0.now, vW a0.version, vI a0.tally.Asked, vI a0.tally.Hits] :: rO (table_Table.op g0_.t.2) g0_.t.1 a0.t :: rO (policy_Policy.op g0_.p.2) g0_.p.1 a0.p :: OwM vW store_last.v g0_.sessions a0.sessions :: F)
    (Ret fun u R' L' => ∃ (q0 : store_Store.G), u = .agg (api_Reply.c r.1).toArray ∧ R' = R ∧ L' = Bk b0_ 96 [vI r.2.c.Policy, vI r.2.c.Entries, vI r.2.c.Bytes, vW r.2.c.Seed, q0.t.1, q0.p.1, q0.sessions, vW r.2.seq, vW r.2.now, vW r.2.version, vI r.2.tally.Asked, vI r.2.tally.Hits] :: rO (table_Table.op q0.t.2) q0.t.1 r.2.t :: rO (policy_Policy.op q0.p.2) q0.p.1 r.2.p :: OwM vW store_last.v q0.sessions r.2.sessions :: F) := by
  obtain ⟨⟨pv1, g2⟩, ⟨pv4, g5⟩, g6⟩ := g0_
  unfold store_Store_do at hm
  refine co_ofN (N := 99) Tryz.func38 rfl rfl ?_
  refine c_seq ?_
  refine c_reg ?_
  refine r_new (o_bx (api_Op.c a1) rfl rfl) fun b7 => ?_
  refine r_new (o_al ze41) fun b8 => ?_
  refine r_nil ?_
  refine x_seq ?_
  refine c_seq ?_
  refine cd_st (fun _ h => mv3 h) ?_
  refine cd_opt (fun ho11 => ?_) (fun x9 b10 ho11 => ?_)
  · rintro rfl
    have hm12 := om_n hm ho11
    clear hm
    cases hm12
  · rintro rfl
    have hm12 := om_s hm ho11
    clear hm
    refine cd_st (fun _ h => st_star_o h) ?_
    obtain ⟨r14, hr14, hm15⟩ := ltx hm12
    clear hm12
    refine c_any mixed (effs := [10, 11]) (V := []) ?_
    refine stage_ext [(0, pt b0_ 0), (1, pt b0_ 0), (2, pt b0_ 4), (3, pt b10 0), (4, pt b7 1), (5, vS a1.Key), (6, .tuple #[.agg (api_Entry.c r14.1).toArray, vB r14.2]), (7, .tuple #[.agg (api_Entry.c r14.1).toArray, vB r14.2]), (8, .agg (api_Entry.c r14.1).toArray), (9, vB r14.2)] rfl ?_
    refine stage rfl rfl rfl rfl [0, 1, 3, 7, 0, 16, 63, 127, 255, 255, 0, 1535, 4095] [0, 1, 2, 3, 4, 5, 6, 7, 8, 9] [10] rfl rfl rfl (qc rfl rfl (s_u (o_mv rfl)) (qc rfl rfl (s_u (o_nc rfl)) (qc rfl rfl (s_u (o_fa fa96_1 rfl)) (qc rfl rfl (s_u (o_ld 4 sc92 rfl rfl rfl)) (qc rfl rfl (s_u (o_fa fa27_1 rfl)) (qc rfl rfl (s_u (o_ld 3 sc9 rfl rfl rfl)) (qc rfl rfl (s_u (o_callqP ca40 rfl (table_Table_Get.ok b10 x9 g2 a1.Key r14 hr14) (fun _ h => st_pk 7 [0, 1, 2, 3, 4, 5, 6] (by decide) h) (fun _ h => st_pk 7 [0, 1, 2, 3, 4, 5, 6] (by decide) h))) (qc rfl rfl (s_u (o_mv rfl)) (qc rfl rfl (s_u (o_ext rfl rfl)) (qc rfl rfl (s_u (o_ext rfl rfl)) qn)))))))))) ?_ (fun h => absurd h (by decide))
    refine ec (eo_n rfl (s_w (o_al ze50)) fun b16 => ?_) en
    refine stage rfl rfl rfl rfl [0, 1, 3, 7, 0, 16, 63, 127, 255, 255, 0, 1535, 4095] [0, 1, 2, 3, 4, 5, 6, 7, 8, 9] [11] rfl rfl rfl (qc rfl rfl (s_u (o_mv rfl)) (qc rfl rfl (s_u (o_nc rfl)) (qc rfl rfl (s_u (o_fa fa96_1 rfl)) (qc rfl rfl (s_u (o_ld 5 sc92 rfl rfl rfl)) (qc rfl rfl (s_u (o_fa fa27_1 rfl)) (qc rfl rfl (s_u (o_ld 4 sc9 rfl rfl rfl)) (qc rfl rfl (s_u (o_callqP ca40 rfl (table_Table_Get.ok b10 x9 g2 a1.Key r14 hr14) (fun _ h => st_pk 8 [1, 2, 0, 3, 4, 5, 6, 7] (by decide) h) (fun _ h => st_pk 8 [2, 0, 1, 3, 4, 5, 6, 7] (by decide) h))) (qc rfl rfl (s_u (o_mv rfl)) (qc rfl rfl (s_u (o_ext rfl rfl)) (qc rfl rfl (s_u (o_ext rfl rfl)) qn)))))))))) ?_ (fun h => absurd h (by decide))
    refine ec (eo_u rfl (s_u (o_stn ag50 rfl rfl rfl rfl rfl rfl rfl)) (Le.refl _) ?_) en
    refine stage_ext [(12, vB r14.2)] rfl ?_
    refine stage rfl rfl rfl rfl [0, 1, 3, 7, 0, 16, 63, 127, 255, 255, 0, 1535, 4095] [9, 12] [] rfl rfl rfl (qc rfl rfl (s_u (o_ext rfl rfl)) (qc rfl rfl (s_u (o_as rfl)) qn)) en ?_
    intro _
    refine ex_sub (E' := [(0, pt b0_ 0), (3, pt b7 0), (4, pt b8 0), (5, pt b16 0), (6, vB r14.2)]) ⟨rfl, rfl, rfl, rfl, rfl, trivial⟩ ?_
    refine x_seq ?_
    refine c_seq ?_
    refine c_seq ?_
    refine c_reg ?_
    refine r_u (o_fa fa27_0 rfl) ?_
    refine r_u (o_ld 4 sc3 rfl rfl rfl) ?_
    refine r_nil ?_
    refine x_seq ?_
    refine c_blk ?_
    refine c_seq ?_
    refine c_reg ?_
    refine r_u (o_bin rfl rfl (bI_eq a1.Kind 1)) ?_
    refine r_u (o_as rfl) ?_
    refine r_nil ?_
    refine x_seq ?_
    refine c_if (b := (a1.Kind == 1)) rfl (fun h17 => ?_) fun h17 => ?_
    · have hm18 := ift hm15 h17
      clear hm15
      refine c_seq ?_
      refine c_reg ?_
      refine r_u (o_mv rfl) ?_
      refine r_u (o_nc rfl) ?_
      refine r_u (o_fa fa96_7 rfl) ?_
      refine r_u (o_fa fa47_0 rfl) ?_
      refine r_u (o_ld 5 sc2 rfl rfl rfl) ?_
      refine r_u (o_bin rfl rfl (bI_add a0.tally.Asked 1)) ?_
      refine r_u (o_nc rfl) ?_
      refine r_u (o_fa fa96_7 rfl) ?_
      refine r_u (o_fa fa47_0 rfl) ?_
      refine rl_st (fun _ h => mv5 h) ?_
      refine r_u0 (o_st sc2 rfl rfl rfl rfl rfl rfl) ?_
      refine r_nil ?_
      refine x_seq ?_
      refine c_seq ?_
      refine c_seq ?_
      refine c_reg ?_
      refine r_u (o_mv rfl) ?_
      refine r_u (o_not rfl) ?_
      refine r_nil ?_
      refine x_seq ?_
      refine c_if (b := !r14.2) rfl (fun h19 => ?_) fun h19 => ?_
      · have hm20 := ift hm18 h19
        clear hm18
        refine c_seq ?_
        refine cd_st (fun _ h => mv6 h) ?_
        refine cd_opt (fun ho23 => ?_) (fun x21 b22 ho23 => ?_)
        · rintro rfl
          have hm24 := om_n hm20 ho23
          clear hm20
          cases hm24
        · rintro rfl
          have hm24 := om_s hm20 ho23
          clear hm20
          obtain ⟨⟨pv26, g27⟩, ⟨pv29, g30⟩⟩ := g5
          refine cd_st (fun _ h => st_star_o h) ?_
          obtain ⟨r31, hr31, hm32⟩ := bs hm24
          clear hm24
          refine c_any mixed (effs := [6]) (V := []) ?_
          refine stage_ext [(0, pt b0_ 0), (1, pt b0_ 0), (2, pt b0_ 5), (3, pt b22 0), (4, pt b7 1), (5, vS a1.Key)] rfl ?_
          refine stage rfl rfl rfl rfl [0, 1, 3, 7, 0, 16, 63] [0, 1, 2, 3, 4, 5] [6] rfl rfl rfl (qc rfl rfl (s_u (o_mv rfl)) (qc rfl rfl (s_u (o_nc rfl)) (qc rfl rfl (s_u (o_fa fa96_2 rfl)) (qc rfl rfl (s_u (o_ld 3 sc93 rfl rfl rfl)) (qc rfl rfl (s_u (o_fa fa27_1 rfl)) (qc rfl rfl (s_u (o_ld 8 sc9 rfl rfl rfl)) qn)))))) ?_ (fun h => absurd h (by decide))
          refine ec (eo_c rfl (s_w (o_call ca70 rfl (policy_Policy_Miss.ok b22 x21 (⟨(pv26, g27), (pv29, g30)⟩ : policy_Policy.G) a1.Key r31 hr31))) ?_) en
          refine stage rfl rfl rfl rfl [0, 1, 3, 7, 0, 16, 63] [] [] rfl rfl rfl qn en ?_
          intro _
          refine ex_sub (E' := [(4, pt b8 0)]) ⟨rfl, trivial⟩ ?_
          refine x_seq ?_
          refine c_seq ?_
          refine c_reg ?_
          refine r_u (o_bld [vI 2, vS [], vW 0] rfl (fun _ => by kernel_rfl)) ?_
          refine rl_st (fun _ h => mv7 h) ?_
          refine r_u0 (o_stn ag41 rfl rfl rfl rfl rfl rfl rfl) ?_
          refine r_nil ?_
          refine x_seq ?_
          refine c_ret ?_
          refine ex_st (fun _ h => mv7 (mv7 h)) ?_
          refine ex_st (fun _ h => st_some (f := table_Table.op g2) (a := x9) (st_star_f (A := table_Table.fl b10 x9 g2) h)) ?_
          refine ex_st (fun _ h => mv4 (mv4 (mv4 h))) ?_
          refine ex_st (fun _ h => st_some (f := policy_Policy.op (⟨(pv26, g27), (pv29, g30)⟩ : policy_Policy.G)) (a := r31) (st_star_f (A := policy_Policy.fl b22 r31 (⟨(pv26, g27), (pv29, g30)⟩ : policy_Policy.G)) h)) ?_
          refine ex_st (fun _ h => mv1 h) ?_
          refine ex_st (fun _ h => st_back ho11 h) ?_
          obtain rfl := Option.some.inj hm32
          exact x_d1 rfl (rv_n 2 [vI 2, vS [], vW 0] ag41 rfl rfl rfl rfl) (fun _ h => st_pk 7 [3, 0, 1, 6] (by decide) h) (Le.refl _) ⟨_, rfl, (⟨(pt b10 0, g2), (pt b22 0, (⟨(pv26, g27), (pv29, g30)⟩ : policy_Policy.G)), g6⟩ : store_Store.G), rfl, rfl, rfl⟩
      · have hm20 := iff_ hm18 h19
        clear hm18
        refine c_skip ?_
        refine x_seq ?_
        refine c_seq ?_
        refine c_reg ?_
        refine r_u (o_mv rfl) ?_
        refine r_u (o_nc rfl) ?_
        refine r_u (o_fa fa96_7 rfl) ?_
        refine r_u (o_fa fa47_1 rfl) ?_
        refine r_u (o_ld 0 sc2 rfl rfl rfl) ?_
        refine r_u (o_bin rfl rfl (bI_add a0.tally.Hits 1)) ?_
        refine r_u (o_nc rfl) ?_
        refine r_u (o_fa fa96_7 rfl) ?_
        refine r_u (o_fa fa47_1 rfl) ?_
        refine r_u0 (o_st sc2 rfl rfl rfl rfl rfl rfl) ?_
        refine r_nil ?_
        refine x_seq ?_
        refine c_seq ?_
        refine cd_st (fun _ h => mv6 h) ?_
        refine cd_opt (fun ho35 => ?_) (fun x33 b34 ho35 => ?_)
        · rintro rfl
          have hm36 := om_n hm20 ho35
          clear hm20
          cases hm36
        · rintro rfl
          have hm36 := om_s hm20 ho35
          clear hm20
          obtain ⟨⟨pv38, g39⟩, ⟨pv41, g42⟩⟩ := g5
          refine cd_st (fun _ h => st_star_o h) ?_
          obtain ⟨r43, hr43, hm51⟩ := bs hm36
          clear hm36
          refine c_any mixed (effs := [6]) (V := []) ?_
          refine stage_ext [(0, pt b0_ 0), (1, pt b0_ 0), (2, pt b0_ 5), (3, pt b34 0), (4, pt b7 1), (5, vS a1.Key)] rfl ?_
          refine stage rfl rfl rfl rfl [0, 1, 3, 7, 0, 16, 63] [0, 1, 2, 3, 4, 5] [6] rfl rfl rfl (qc rfl rfl (s_u (o_mv rfl)) (qc rfl rfl (s_u (o_nc rfl)) (qc rfl rfl (s_u (o_fa fa96_2 rfl)) (qc rfl rfl (s_u (o_ld 3 sc93 rfl rfl rfl)) (qc rfl rfl (s_u (o_fa fa27_1 rfl)) (qc rfl rfl (s_u (o_ld 8 sc9 rfl rfl rfl)) qn)))))) ?_ (fun h => absurd h (by decide))
          refine ec (eo_w rfl (s_w (o_call ca71 rfl (policy_Policy_Touch.ok b34 x33 (⟨(pv38, g39), (pv41, g42)⟩ : policy_Policy.G) a1.Key r43 hr43))) ?_) en
          rintro _ R _ _ ⟨⟨⟨pv46, g47⟩, ⟨pv49, g50⟩⟩, rfl, rfl, rfl⟩
          refine stage rfl rfl rfl rfl [0, 1, 3, 7, 0, 16, 63] [] [] rfl rfl rfl qn en ?_
          intro _
          refine ex_sub (E' := [(4, pt b8 0), (5, pt b16 0)]) ⟨rfl, rfl, trivial⟩ ?_
          refine x_seq ?_
          refine c_seq ?_
          refine c_reg ?_
          refine r_u (o_fa fa50_1 rfl) ?_
          refine r_u (o_ld 4 sc9 rfl rfl rfl) ?_
          refine r_u (o_fa fa50_2 rfl) ?_
          refine r_u (o_ld 4 sc22 rfl rfl rfl) ?_
          refine r_u (o_bld [vI 0, vS r14.1.Value, vW r14.1.Version] rfl (fun _ => by kernel_rfl)) ?_
          refine rl_st (fun _ h => mv7 h) ?_
          refine r_u0 (o_stn ag41 rfl rfl rfl rfl rfl rfl rfl) ?_
          refine r_nil ?_
          refine x_seq ?_
          refine c_ret ?_
          refine ex_st (fun _ h => mv7 (mv7 h)) ?_
          refine ex_st (fun _ h => st_some (f := table_Table.op g2) (a := x9) (st_star_f (A := table_Table.fl b10 x9 g2) h)) ?_
          refine ex_st (fun _ h => mv4 (mv4 (mv4 h))) ?_
          refine ex_st (fun _ h => st_some (f := policy_Policy.op (⟨(pv46, g47), (pv49, g50)⟩ : policy_Policy.G)) (a := r43.2) (st_star_f (A := policy_Policy.fl b34 r43.2 (⟨(pv46, g47), (pv49, g50)⟩ : policy_Policy.G)) h)) ?_
          refine ex_st (fun _ h => mv1 h) ?_
          refine ex_st (fun _ h => st_back ho11 h) ?_
          obtain rfl := Option.some.inj hm51
          exact x_d1 rfl (rv_n 2 [vI 0, vS r14.1.Value, vW r14.1.Version] ag41 rfl rfl rfl rfl) (fun _ h => st_pk 7 [3, 0, 1, 6] (by decide) h) (Le.refl _) ⟨_, rfl, (⟨(pt b10 0, g2), (pt b34 0, (⟨(pv46, g47), (pv49, g50)⟩ : policy_Policy.G)), g6⟩ : store_Store.G), rfl, rfl, rfl⟩
    · have hm18 := iff_ hm15 h17
      clear hm15
      refine c_seq ?_
      refine c_reg ?_
      refine r_u (o_bin rfl rfl (bI_eq a1.Kind 3)) ?_
      refine r_u (o_as rfl) ?_
      refine r_nil ?_
      refine x_seq ?_
      refine c_if (b := (a1.Kind == 3)) rfl (fun h52 => ?_) fun h52 => ?_
      · have hm53 := ift hm18 h52
        clear hm18
        refine c_seq ?_
        refine c_seq ?_
        refine c_reg ?_
        refine r_u (o_mv rfl) ?_
        refine r_u (o_not rfl) ?_
        refine r_nil ?_
        refine x_seq ?_
        refine c_if (b := !r14.2) rfl (fun h54 => ?_) fun h54 => ?_
        · have hm55 := ift hm53 h54
          clear hm53
          refine c_seq ?_
          refine c_reg ?_
          refine r_u (o_bld [vI 2, vS [], vW 0] rfl (fun _ => by kernel_rfl)) ?_
          refine rl_st (fun _ h => mv3 h) ?_
          refine r_u0 (o_stn ag41 rfl rfl rfl rfl rfl rfl rfl) ?_
          refine r_nil ?_
          refine x_seq ?_
          refine c_ret ?_
          refine ex_st (fun _ h => mv3 (mv3 h)) ?_
          refine ex_st (fun _ h => st_some (f := table_Table.op g2) (a := x9) (st_star_f (A := table_Table.fl b10 x9 g2) h)) ?_
          refine ex_st (fun _ h => st_back ho11 h) ?_
          obtain rfl := Option.some.inj hm55
          exact x_d1 rfl (rv_n 1 [vI 2, vS [], vW 0] ag41 rfl rfl rfl rfl) (fun _ h => st_pk 7 [4, 0, 5, 6] (by decide) h) (Le.refl _) ⟨_, rfl, (⟨(pt b10 0, g2), (pv4, g5), g6⟩ : store_Store.G), rfl, rfl, rfl⟩
        · have hm55 := iff_ hm53 h54
          clear hm53
          refine c_skip ?_
          refine x_seq ?_
          refine c_seq ?_
          obtain ⟨r56, hr56, hm57⟩ := ltx hm55
          clear hm55
          refine c_any mixed (effs := [6]) (V := []) ?_
          refine stage_st (fun _ h => mv2 (mv2 h)) ?_
          refine stage_ext [(0, pt b0_ 0), (1, pt b0_ 0), (2, pt b0_ 4), (3, pt b10 0), (4, pt b7 1), (5, vS a1.Key)] rfl ?_
          refine stage rfl rfl rfl rfl [0, 1, 3, 7, 0, 16, 63] [0, 1, 2, 3, 4, 5] [6] rfl rfl rfl (qc rfl rfl (s_u (o_mv rfl)) (qc rfl rfl (s_u (o_nc rfl)) (qc rfl rfl (s_u (o_fa fa96_1 rfl)) (qc rfl rfl (s_u (o_ld 5 sc92 rfl rfl rfl)) (qc rfl rfl (s_u (o_fa fa27_1 rfl)) (qc rfl rfl (s_u (o_ld 4 sc9 rfl rfl rfl)) qn)))))) ?_ (fun h => absurd h (by decide))
          refine ec (eo_c rfl (s_w (o_call ca36 rfl (table_Table_Drop.ok b10 x9 g2 a1.Key r56 hr56))) ?_) en
          refine stage rfl rfl rfl rfl [0, 1, 3, 7, 0, 16, 63] [] [] rfl rfl rfl qn en ?_
          intro _
          refine ex_sub (E' := [(0, pt b0_ 0), (3, pt b7 0), (4, pt b8 0), (5, pt b16 0)]) ⟨rfl, rfl, rfl, rfl, trivial⟩ ?_
          refine x_seq ?_
          refine c_seq ?_
          refine cd_st (fun _ h => mv6 h) ?_
          refine cd_opt (fun ho60 => ?_) (fun x58 b59 ho60 => ?_)
          · rintro rfl
            have hm61 := om_n hm57 ho60
            clear hm57
            cases hm61
          · rintro rfl
            have hm61 := om_s hm57 ho60
            clear hm57
            obtain ⟨⟨pv63, g64⟩, ⟨pv66, g67⟩⟩ := g5
            refine cd_st (fun _ h => st_star_o h) ?_
            obtain ⟨r68, hr68, hm76⟩ := bs hm61
            clear hm61
            refine c_any mixed (effs := [6]) (V := []) ?_
            refine stage_ext [(0, pt b0_ 0), (1, pt b0_ 0), (2, pt b0_ 5), (3, pt b59 0), (4, pt b7 1), (5, vS a1.Key)] rfl ?_
            refine stage rfl rfl rfl rfl [0, 1, 3, 7, 0, 16, 63] [0, 1, 2, 3, 4, 5] [6] rfl rfl rfl (qc rfl rfl (s_u (o_mv rfl)) (qc rfl rfl (s_u (o_nc rfl)) (qc rfl rfl (s_u (o_fa fa96_2 rfl)) (qc rfl rfl (s_u (o_ld 8 sc93 rfl rfl rfl)) (qc rfl rfl (s_u (o_fa fa27_1 rfl)) (qc rfl rfl (s_u (o_ld 7 sc9 rfl rfl rfl)) qn)))))) ?_ (fun h => absurd h (by decide))
            refine ec (eo_w rfl (s_w (o_call ca37 rfl (policy_Policy_Remove.ok b59 x58 (⟨(pv63, g64), (pv66, g67)⟩ : policy_Policy.G) a1.Key r68 hr68))) ?_) en
            rintro _ R _ _ ⟨⟨⟨pv71, g72⟩, ⟨pv74, g75⟩⟩, rfl, rfl, rfl⟩
            refine stage rfl rfl rfl rfl [0, 1, 3, 7, 0, 16, 63] [] [] rfl rfl rfl qn en ?_
            intro _
            refine ex_sub (E' := [(4, pt b8 0), (5, pt b16 0)]) ⟨rfl, rfl, trivial⟩ ?_
            refine x_seq ?_
            refine c_seq ?_
            refine c_reg ?_
            refine r_u (o_fa fa50_2 rfl) ?_
            refine r_u (o_ld 5 sc22 rfl rfl rfl) ?_
            refine r_u (o_bld [vI 0, vS [], vW r14.1.Version] rfl (fun _ => by kernel_rfl)) ?_
            refine rl_st (fun _ h => mv6 h) ?_
            refine r_u0 (o_stn ag41 rfl rfl rfl rfl rfl rfl rfl) ?_
            refine r_nil ?_
            refine x_seq ?_
            refine c_ret ?_
            refine ex_st (fun _ h => mv5 (mv5 h)) ?_
            refine ex_st (fun _ h => st_some (f := table_Table.op g2) (a := r56.2) (st_star_f (A := table_Table.fl b10 r56.2 g2) h)) ?_
            refine ex_st (fun _ h => mv4 (mv4 (mv4 h))) ?_
            refine ex_st (fun _ h => st_some (f := policy_Policy.op (⟨(pv71, g72), (pv74, g75)⟩ : policy_Policy.G)) (a := r68.2) (st_star_f (A := policy_Policy.fl b59 r68.2 (⟨(pv71, g72), (pv74, g75)⟩ : policy_Policy.G)) h)) ?_
            obtain rfl := Option.some.inj hm76
            exact x_d1 rfl (rv_n 2 [vI 0, vS [], vW r14.1.Version] ag41 rfl rfl rfl rfl) (fun _ h => st_pk 7 [5, 1, 0, 6] (by decide) h) (Le.refl _) ⟨_, rfl, (⟨(pt b10 0, g2), (pt b59 0, (⟨(pv71, g72), (pv74, g75)⟩ : policy_Policy.G)), g6⟩ : store_Store.G), rfl, rfl, rfl⟩
      · have hm53 := iff_ hm18 h52
        clear hm18
        refine c_seq ?_
        refine c_reg ?_
        refine r_u (o_bin rfl rfl (bI_eq a1.Kind 4)) ?_
        refine r_u (o_as rfl) ?_
        refine r_nil ?_
        refine x_seq ?_
        refine c_if (b := (a1.Kind == 4)) rfl (fun h77 => ?_) fun h77 => ?_
        · have hm78 := ift hm53 h77
          clear hm53
          refine c_seq ?_
          refine c_seq ?_
          refine c_reg ?_
          refine r_u (o_mv rfl) ?_
          refine r_u (o_not rfl) ?_
          refine r_nil ?_
          refine x_seq ?_
          refine c_if (b := !r14.2) rfl (fun h79 => ?_) fun h79 => ?_
          · have hm80 := ift hm78 h79
            clear hm78
            refine c_seq ?_
            refine c_reg ?_
            refine r_u (o_bld [vI 2, vS [], vW 0] rfl (fun _ => by kernel_rfl)) ?_
            refine rl_st (fun _ h => mv3 h) ?_
            refine r_u0 (o_stn ag41 rfl rfl rfl rfl rfl rfl rfl) ?_
            refine r_nil ?_
            refine x_seq ?_
            refine c_ret ?_
            refine ex_st (fun _ h => mv3 (mv3 h)) ?_
            refine ex_st (fun _ h => st_some (f := table_Table.op g2) (a := x9) (st_star_f (A := table_Table.fl b10 x9 g2) h)) ?_
            refine ex_st (fun _ h => st_back ho11 h) ?_
            obtain rfl := Option.some.inj hm80
            exact x_d1 rfl (rv_n 1 [vI 2, vS [], vW 0] ag41 rfl rfl rfl rfl) (fun _ h => st_pk 7 [4, 0, 5, 6] (by decide) h) (Le.refl _) ⟨_, rfl, (⟨(pt b10 0, g2), (pv4, g5), g6⟩ : store_Store.G), rfl, rfl, rfl⟩
          · have hm80 := iff_ hm78 h79
            clear hm78
            refine c_skip ?_
            refine x_seq ?_
            refine c_seq ?_
            refine c_reg ?_
            refine r_u (o_fa fa50_2 rfl) ?_
            refine r_u (o_ld 0 sc22 rfl rfl rfl) ?_
            refine r_u (o_fa fa27_4 rfl) ?_
            refine r_u (o_ld 4 sc22 rfl rfl rfl) ?_
            refine r_u (o_bin rfl rfl (bW_ne r14.1.Version a1.Version)) ?_
            refine r_nil ?_
            refine x_seq ?_
            refine c_if (b := (r14.1.Version != a1.Version)) rfl (fun h81 => ?_) fun h81 => ?_
            · have hm82 := ift hm80 h81
              clear hm80
              refine c_seq ?_
              refine c_reg ?_
              refine r_u (o_fa fa50_2 rfl) ?_
              refine r_u (o_ld 0 sc22 rfl rfl rfl) ?_
              refine r_u (o_bld [vI 121, vS [], vW r14.1.Version] rfl (fun _ => by kernel_rfl)) ?_
              refine rl_st (fun _ h => mv3 h) ?_
              refine r_u0 (o_stn ag41 rfl rfl rfl rfl rfl rfl rfl) ?_
              refine r_nil ?_
              refine x_seq ?_
              refine c_ret ?_
              refine ex_st (fun _ h => mv3 (mv3 h)) ?_
              refine ex_st (fun _ h => st_some (f := table_Table.op g2) (a := x9) (st_star_f (A := table_Table.fl b10 x9 g2) h)) ?_
              refine ex_st (fun _ h => st_back ho11 h) ?_
              obtain rfl := Option.some.inj hm82
              exact x_d1 rfl (rv_n 1 [vI 121, vS [], vW r14.1.Version] ag41 rfl rfl rfl rfl) (fun _ h => st_pk 7 [4, 0, 5, 6] (by decide) h) (Le.refl _) ⟨_, rfl, (⟨(pt b10 0, g2), (pv4, g5), g6⟩ : store_Store.G), rfl, rfl, rfl⟩
            · have hm82 := iff_ hm80 h81
              clear hm80
              refine c_skip ?_
              refine x_blk ?_
              refine x_seq ?_
              refine c_seq ?_
              refine c_reg ?_
              refine r_u (o_mv rfl) ?_
              refine r_u (o_ldn 4 (api_Op.c a1) ag27 rfl rfl rfl rfl) ?_
              refine rl_st (fun _ h => mv2 (mv2 h)) ?_
              refine rl_st (fun _ h => st_some (f := table_Table.op g2) (a := x9) (st_star_f (A := table_Table.fl b10 x9 g2) h)) ?_
              obtain ⟨r83, hr83, hm92⟩ := bs hm82
              clear hm82
              refine rl_st (fun _ h => mv6 (mv2 (mv6 (mv6 h)))) ?_
              refine r_sw (s_w (o_call ca72 rfl (store_Store_put.ok b0_ (⟨a0.c, (some x9), a0.p, a0.sessions, a0.seq, a0.now, a0.version, a0.tally⟩ : store_Store) (⟨(pt b10 0, g2), (pv4, g5), g6⟩ : store_Store.G) a1 r83 hr83))) ?_
              rintro _ R _ _ ⟨⟨⟨pv86, g87⟩, ⟨pv89, g90⟩, g91⟩, rfl, rfl, rfl⟩
              refine rl_st (fun _ h => mv5 h) ?_
              refine r_u0 (o_stn ag41 rfl rfl rfl rfl rfl rfl rfl) ?_
              refine r_nil ?_
              refine x_seq ?_
              refine c_ret ?_
              obtain rfl := Option.some.inj hm92
              exact x_d1 rfl (rv_n 0 (api_Reply.c r83.1) ag41 rfl rfl rfl rfl) (fun _ h => st_pk 7 [1, 2, 3, 4] (by decide) h) (Le.refl _) ⟨_, rfl, (⟨(pv86, g87), (pv89, g90), g91⟩ : store_Store.G), rfl, rfl, rfl⟩
        · have hm78 := iff_ hm53 h77
          clear hm53
          refine c_skip ?_
          refine x_blk ?_
          refine x_seq ?_
          refine c_seq ?_
          refine c_reg ?_
          refine r_u (o_mv rfl) ?_
          refine r_u (o_ldn 4 (api_Op.c a1) ag27 rfl rfl rfl rfl) ?_
          refine rl_st (fun _ h => mv2 (mv2 h)) ?_
          refine rl_st (fun _ h => st_some (f := table_Table.op g2) (a := x9) (st_star_f (A := table_Table.fl b10 x9 g2) h)) ?_
          obtain ⟨r93, hr93, hm102⟩ := bs hm78
          clear hm78
          refine rl_st (fun _ h => mv6 (mv2 (mv6 (mv6 h)))) ?_
          refine r_sw (s_w (o_call ca72 rfl (store_Store_put.ok b0_ (⟨a0.c, (some x9), a0.p, a0.sessions, a0.seq, a0.now, a0.version, a0.tally⟩ : store_Store) (⟨(pt b10 0, g2), (pv4, g5), g6⟩ : store_Store.G) a1 r93 hr93))) ?_
          rintro _ R _ _ ⟨⟨⟨pv96, g97⟩, ⟨pv99, g100⟩, g101⟩, rfl, rfl, rfl⟩
          refine rl_st (fun _ h => mv5 h) ?_
          refine r_u0 (o_stn ag41 rfl rfl rfl rfl rfl rfl rfl) ?_
          refine r_nil ?_
          refine x_seq ?_
          refine c_ret ?_
          obtain rfl := Option.some.inj hm102
          exact x_d1 rfl (rv_n 0 (api_Reply.c r93.1) ag41 rfl rfl rfl rfl) (fun _ h => st_pk 7 [1, 2, 3, 4] (by decide) h) (Le.refl _) ⟨_, rfl, (⟨(pv96, g97), (pv99, g100), g101⟩ : store_Store.G), rfl, rfl, rfl⟩

def store_Store_Apply_l0 (r18 : List Str) : Nat → Int → Int → (Option policy_Policy) → (List (Str × api_Entry)) → Option (Int × Option policy_Policy × (List (Str × api_Entry)))
  | 0, _, _, _, _ => none
  | k55 + 1, s_48, c_49, c_50, c_51 => if decide (s_48 < (r18.length : Int)) then (gi r18 s_48).bind fun x60 => lt (table_Table_Drop (⟨c_51, c_49⟩ : table_Table) x60) fun r62 => om c_50 (none) fun x64 => (policy_Policy_Remove x64 x60).bind fun r74 => store_Store_Apply_l0 r18 k55 (i64 (s_48 + 1)) r62.2.bytes (some r74.2) r62.2.m else some (c_49, c_50, c_51)
def store_Store_Apply (a0 : store_Store) (a1 : api_Record) : Option (api_Reply × Int × store_Store) :=
  if !(op_Check a1.Op) then some ((⟨0, [], 0⟩ : api_Reply), 1, a0) else if ((a1.Seq == 0) || ((a1.Seq - 1) != a0.seq)) then some ((⟨0, [], 0⟩ : api_Reply), 123, a0) else om a0.t (none) fun x13 => (table_Table_Ended x13 (if a0.now < a1.Now then a1.Now else a0.now)).bind fun r18 => Option.bind (store_Store_Apply_l0 r18 (((r18.length : Int) - 0).toNat + 1) 0 x13.bytes a0.p x13.m) fun p21 => if (a1.Op.Kind == 5) then some ((⟨0, [], 0⟩ : api_Reply), 0, (⟨a0.c, (some (⟨p21.2.2, p21.1⟩ : table_Table)), p21.2.1, a0.sessions, a0.seq + 1, (if a0.now < a1.Now then a1.Now else a0.now), a0.version, a0.tally⟩ : store_Store)) else if ((mget a0.sessions a1.Session).isSome && (a1.Num == (((mget a0.sessions a1.Session).getD ((⟨0, (⟨0, [], 0⟩ : api_Reply)⟩ : store_last) : store_last)).num))) then some ((((mget a0.sessions a1.Session).getD ((⟨0, (⟨0, [], 0⟩ : api_Reply)⟩ : store_last) : store_last)).reply), 0, (⟨a0.c, (some (⟨p21.2.2, p21.1⟩ : table_Table)), p21.2.1, a0.sessions, a0.seq + 1, (if a0.now < a1.Now then a1.Now else a0.now), a0.version, a0.tally⟩ : store_Store)) else if ((mget a0.sessions a1.Session).isSome && decide (a1.Num < (((mget a0.sessions a1.Session).getD ((⟨0, (⟨0, [], 0⟩ : api_Reply)⟩ : store_last) : store_last)).num))) then some ((⟨122, [], 0⟩ : api_Reply), 0, (⟨a0.c, (some (⟨p21.2.2, p21.1⟩ : table_Table)), p21.2.1, a0.sessions, a0.seq + 1, (if a0.now < a1.Now then a1.Now else a0.now), a0.version, a0.tally⟩ : store_Store)) else if (!((mget a0.sessions a1.Session).isSome) && decide (64 ≤ (a0.sessions.length : Int))) then some ((⟨3, [], 0⟩ : api_Reply), 0, (⟨a0.c, (some (⟨p21.2.2, p21.1⟩ : table_Table)), p21.2.1, a0.sessions, a0.seq + 1, (if a0.now < a1.Now then a1.Now else a0.now), a0.version, a0.tally⟩ : store_Store)) else (store_Store_do (⟨a0.c, (some (⟨p21.2.2, p21.1⟩ : table_Table)), p21.2.1, a0.sessions, a0.seq + 1, (if a0.now < a1.Now then a1.Now else a0.now), a0.version, a0.tally⟩ : store_Store) a1.Op).bind fun r37 => some (r37.1, 0, (⟨r37.2.c, r37.2.t, r37.2.p, mput r37.2.sessions a1.Session (⟨a1.Num, r37.1⟩ : store_last), r37.2.seq, r37.2.now, r37.2.version, r37.2.tally⟩ : store_Store))
theorem store_Store_Apply.ok {G R F} (b0_ : Nat) (a0 : store_Store) (g0_ : store_Store.G) (a1 : api_Record) (r : api_Reply × Int × store_Store) (hm : store_Store_Apply a0 a1 = some r) : CO Tryz.prog 15 [pt b0_ 0, .agg (api_Record.c a1).toArray] G R (Bk b0_ 96 [vI a0.c.Policy, vI a0.c.Entries, vI a0.c.Bytes, vW a0.c.Seed, g0_.t.1, g0_.p.1, g0_.sessions, vW a0.seq, vW a0.now, vW a0.version, vI a0.tally.Asked, vI a0.tally.Hits] :: rO (table_Table.op g0_.t.2) g0_.t.1 a0.t :: rO (policy_Policy.op g0_.p.2) g0_.p.1 a0.p :: OwM vW store_last.v g0_.sessions a0.sessions :: F)
    (Ret fun u R' L' => ∃ (q0 : store_Store.G), u = .tuple #[.agg (api_Reply.c r.1).toArray, vI r.2.1] ∧ R' = R ∧ L' = Bk b0_ 96 [vI r.2.2.c.Policy, vI r.2.2.c.Entries, vI r.2.2.c.Bytes, vW r.2.2.c.Seed, q0.t.1, q0.p.1, q0.sessions, vW r.2.2.seq, vW r.2.2.now, vW r.2.2.version, vI r.2.2.tally.Asked, vI r.2.2.tally.Hits] :: rO (table_Table.op q0.t.2) q0.t.1 r.2.2.t :: rO (policy_Policy.op q0.p.2) q0.p.1 r.2.2.p :: OwM vW store_last.v q0.sessions r.2.2.sessions :: F) := by
  obtain ⟨⟨pv1, g2⟩, ⟨pv4, g5⟩, g6⟩ := g0_
  unfold store_Store_Apply at hm
  refine co_ofN (N := 143) Tryz.func15 rfl rfl ?_
  refine c_seq ?_
  refine c_reg ?_
  refine r_new (o_bx (api_Record.c a1) rfl rfl) fun b7 => ?_
  refine r_new (o_al ze41) fun b8 => ?_
  refine r_u (o_as rfl) ?_
  refine r_nil ?_
  refine x_seq ?_
  refine c_seq ?_
  refine c_blk ?_
  refine c_seq ?_
  refine c_reg ?_
  refine r_u (o_mv rfl) ?_
  refine r_u (o_bin rfl rfl (bP_eqp Tryz.underlying30)) ?_
  refine r_u (o_mv rfl) ?_
  refine r_s (s_y rfl rfl rfl (o_fa fa35_4 rfl)) ?_
  refine r_s (s_y rfl rfl rfl (o_ldn 1 (api_Op.c a1.Op) ag27 rfl rfl rfl rfl)) ?_
  refine r_s (s_y rfl rfl rfl (o_callq ca34 rfl (op_Check.ok a1.Op _ rfl))) ?_
  refine r_s (s_y rfl rfl rfl (o_not rfl)) ?_
  refine r_u (o_pf rfl rfl rfl) ?_
  refine r_u (o_as rfl) ?_
  refine r_nil ?_
  refine x_seq ?_
  refine c_if (b := !(op_Check a1.Op)) rfl (fun h9 => ?_) fun h9 => ?_
  · have hm10 := ift hm h9
    clear hm
    refine c_seq ?_
    refine c_reg ?_
    refine r_u (o_bld [vI 0, vS [], vW 0] rfl (fun _ => by kernel_rfl)) ?_
    refine r_u0 (o_stn ag41 rfl rfl rfl rfl rfl rfl rfl) ?_
    refine r_u (o_as rfl) ?_
    refine r_nil ?_
    refine x_seq ?_
    refine c_ret ?_
    obtain rfl := Option.some.inj hm10
    exact x_d2 rfl (rv_n 0 [vI 0, vS [], vW 0] ag41 rfl rfl rfl rfl) (rv_t rfl) (fun _ h => st_pk 6 [2, 3, 4, 5] (by decide) h) (Le.refl _) ⟨_, rfl, (⟨(pv1, g2), (pv4, g5), g6⟩ : store_Store.G), rfl, rfl, rfl⟩
  · have hm10 := iff_ hm h9
    clear hm
    refine c_seq ?_
    refine c_any mixed (effs := []) (V := []) ?_
    refine stage_ext [(0, pt b7 0), (1, vW a1.Seq), (2, vB (a1.Seq == 0)), (3, vB (a1.Seq == 0)), (4, gv (!(a1.Seq == 0)) (pt b7 0)), (5, gv (!(a1.Seq == 0)) (vW a1.Seq)), (6, gv (!(a1.Seq == 0)) (vW (a1.Seq - 1))), (7, gv (!(a1.Seq == 0)) (pt b0_ 0)), (8, gv (!(a1.Seq == 0)) (pt b0_ 0)), (9, gv (!(a1.Seq == 0)) (pt b0_ 7)), (10, gv (!(a1.Seq == 0)) (vW a0.seq)), (11, gv (!(a1.Seq == 0)) (vB ((a1.Seq - 1) != a0.seq))), (12, vB ((a1.Seq == 0) || ((a1.Seq - 1) != a0.seq))), (13, vB ((a1.Seq == 0) || ((a1.Seq - 1) != a0.seq)))] rfl ?_
    refine stage rfl rfl rfl rfl [0, 1, 3, 7, 15, 31, 63, 15, 143, 399, 911, 2047, 4095, 8191] [0, 1, 2, 3, 4, 5, 6, 7, 8, 9, 10, 11, 12, 13] [] rfl rfl rfl (qc rfl rfl (s_u (o_fa fa35_0 rfl)) (qc rfl rfl (s_u (o_ld 1 sc22 rfl rfl rfl)) (qc rfl rfl (s_u (o_bin rfl rfl (bW_eq a1.Seq 0))) (qc rfl rfl (s_u (o_mv rfl)) (qc rfl rfl (s_gf rfl rfl fun g => o_fa fa35_0 rfl) (qc rfl rfl (s_gf rfl rfl fun g => o_ld 1 sc22 (evg rfl g) rfl rfl) (qc rfl rfl (s_gf rfl rfl fun g => o_bin (evg rfl g) rfl (bW_sub a1.Seq 1)) (qc rfl rfl (s_gf rfl rfl fun g => o_mv rfl) (qc rfl rfl (s_gf rfl rfl fun g => o_nc (evg rfl g)) (qc rfl rfl (s_gf rfl rfl fun g => o_fa fa96_4 (evg rfl g)) (qc rfl rfl (s_gf rfl rfl fun g => o_ld 2 sc22 (evg rfl g) rfl rfl) (qc rfl rfl (s_gf rfl rfl fun g => o_bin (evg rfl g) (evg rfl g) (bW_ne (a1.Seq - 1) a0.seq)) (qc rfl rfl (s_u (o_or rfl rfl)) (qc rfl rfl (s_u (o_as rfl)) qn)))))))))))))) en ?_
    intro _
    refine ex_sub (E' := [(0, pt b0_ 0), (3, pt b7 0), (4, pt b8 0), (21, vB ((a1.Seq == 0) || ((a1.Seq - 1) != a0.seq)))]) ⟨rfl, rfl, rfl, rfl, trivial⟩ ?_
    refine x_seq ?_
    refine c_if (b := ((a1.Seq == 0) || ((a1.Seq - 1) != a0.seq))) rfl (fun h11 => ?_) fun h11 => ?_
    · have hm12 := ift hm10 h11
      clear hm10
      refine c_seq ?_
      refine c_reg ?_
      refine r_u (o_bld [vI 0, vS [], vW 0] rfl (fun _ => by kernel_rfl)) ?_
      refine r_u0 (o_stn ag41 rfl rfl rfl rfl rfl rfl rfl) ?_
      refine r_u (o_as rfl) ?_
      refine r_nil ?_
      refine x_seq ?_
      refine c_ret ?_
      obtain rfl := Option.some.inj hm12
      exact x_d2 rfl (rv_n 0 [vI 0, vS [], vW 0] ag41 rfl rfl rfl rfl) (rv_t rfl) (fun _ h => st_pk 6 [2, 3, 4, 5] (by decide) h) (Le.refl _) ⟨_, rfl, (⟨(pv1, g2), (pv4, g5), g6⟩ : store_Store.G), rfl, rfl, rfl⟩
    · have hm12 := iff_ hm10 h11
      clear hm10
      refine c_skip ?_
      refine x_blk ?_
      refine x_seq ?_
      refine c_seq ?_
      refine c_reg ?_
      refine r_u (o_mv rfl) ?_
      refine r_u (o_nc rfl) ?_
      refine r_u (o_fa fa96_4 rfl) ?_
      refine r_u (o_ld 2 sc22 rfl rfl rfl) ?_
      refine r_u (o_bin rfl rfl (bW_add a0.seq 1)) ?_
      refine r_u (o_nc rfl) ?_
      refine r_u (o_fa fa96_4 rfl) ?_
      refine rl_st (fun _ h => mv2 h) ?_
      refine r_u0 (o_st sc22 rfl rfl rfl rfl rfl rfl) ?_
      refine r_nil ?_
      refine x_seq ?_
      refine c_seq ?_
      refine c_any mixed (effs := [10]) (V := []) ?_
      refine stage_ext [(0, pt b0_ 0), (1, pt b0_ 0), (2, pt b0_ 0), (3, pt b0_ 8), (4, vW a0.now), (5, pt b7 1), (6, vW a1.Now), (7, vW (if a0.now < a1.Now then a1.Now else a0.now)), (8, pt b0_ 0), (9, pt b0_ 8)] rfl ?_
      refine stage rfl rfl rfl rfl [0, 0, 2, 6, 14, 0, 32, 126, 255, 511, 1023] [0, 1, 2, 3, 4, 5, 6, 7, 8, 9] [10] rfl rfl rfl (qc rfl rfl (s_u (o_mv rfl)) (qc rfl rfl (s_u (o_mv rfl)) (qc rfl rfl (s_u (o_nc rfl)) (qc rfl rfl (s_u (o_fa fa96_5 rfl)) (qc rfl rfl (s_u (o_ld 0 sc22 rfl rfl rfl)) (qc rfl rfl (s_u (o_fa fa35_1 rfl)) (qc rfl rfl (s_u (o_ld 2 sc22 rfl rfl rfl)) (qc rfl rfl (s_u (o_maxW rfl rfl)) (qc rfl rfl (s_u (o_nc rfl)) (qc rfl rfl (s_u (o_fa fa96_5 rfl)) qn)))))))))) ?_ (fun h => absurd h (by decide))
      refine ec (eo_u rfl (s_u (o_st sc22 rfl rfl rfl rfl rfl rfl)) (Le.refl _) ?_) en
      refine stage rfl rfl rfl rfl [0, 0, 2, 6, 14, 0, 32, 126, 255, 511, 1023] [] [] rfl rfl rfl qn en ?_
      intro _
      refine ex_sub (E' := [(0, pt b0_ 0), (3, pt b7 0), (4, pt b8 0)]) ⟨rfl, rfl, rfl, trivial⟩ ?_
      refine x_seq ?_
      refine c_seq ?_
      refine c_seq ?_
      refine cd_st (fun _ h => mv3 h) ?_
      refine cd_opt (fun ho15 => ?_) (fun x13 b14 ho15 => ?_)
      · rintro rfl
        have hm16 := om_n hm12 ho15
        clear hm12
        cases hm16
      · rintro rfl
        have hm16 := om_s hm12 ho15
        clear hm12
        refine cd_st (fun _ h => st_star_o h) ?_
        obtain ⟨r18, hr18, hm20⟩ := bs hm16
        clear hm16
        refine c_any mixed (effs := [8]) (V := []) ?_
        refine stage_ext [(0, pt b0_ 0), (1, pt b0_ 0), (2, pt b0_ 4), (3, pt b14 0), (4, pt b0_ 0), (5, pt b0_ 0), (6, pt b0_ 8), (7, vW (if a0.now < a1.Now then a1.Now else a0.now)), (10, vI 0)] rfl ?_
        refine stage rfl rfl rfl rfl [0, 1, 3, 7, 0, 16, 48, 112, 255, 511, 0] [0, 1, 2, 3, 4, 5, 6, 7, 10] [8] rfl rfl rfl (qc rfl rfl (s_u (o_mv rfl)) (qc rfl rfl (s_u (o_nc rfl)) (qc rfl rfl (s_u (o_fa fa96_1 rfl)) (qc rfl rfl (s_u (o_ld 2 sc92 rfl rfl rfl)) (qc rfl rfl (s_u (o_mv rfl)) (qc rfl rfl (s_u (o_nc rfl)) (qc rfl rfl (s_u (o_fa fa96_5 rfl)) (qc rfl rfl (s_u (o_ld 2 sc22 rfl rfl rfl)) (qc rfl rfl (s_u (o_mv rfl)) qn))))))))) ?_ (fun h => absurd h (by decide))
        refine ec (eo_w rfl (s_w (o_call ca35 rfl (table_Table_Ended.ok b14 x13 g2 (if a0.now < a1.Now then a1.Now else a0.now) r18 hr18))) ?_) en
        rintro v19 R _ _ ⟨_, rfl, rfl, rfl⟩
        refine stage_ext [(9, vI (r18.length : Int))] rfl ?_
        refine stage rfl rfl rfl rfl [0, 1, 3, 7, 0, 16, 48, 112, 255, 511, 0] [9, 10] [] rfl rfl rfl (qc rfl rfl (s_u (o_lenO 0 Tryz.underlying98 rfl rfl)) (qc rfl rfl (s_u (o_mv rfl)) qn)) en ?_
        intro _
        refine ex_sub (E' := [(0, pt b0_ 0), (3, pt b7 0), (4, pt b8 0), (61, v19), (62, vI (r18.length : Int)), (63, vI 0)]) ⟨rfl, rfl, rfl, rfl, rfl, rfl, trivial⟩ ?_
        refine x_seq ?_
        obtain ⟨p21, hp25, hm26⟩ := bs hm20
        refine cd_cut (fun x ks => ∀ (pv22 : Value × policy_Policy.G), EX x .normal ks [(0, pt b0_ 0), (3, pt b7 0), (4, pt b8 0)] R (Bk b14 138 [g2.m, vI p21.1] :: Bk b0_ 96 [vI a0.c.Policy, vI a0.c.Entries, vI a0.c.Bytes, vW a0.c.Seed, pt b14 0, pv22.1, g6, vW (a0.seq + 1), vW (if a0.now < a1.Now then a1.Now else a0.now), vW a0.version, vI a0.tally.Asked, vI a0.tally.Hits] :: Bk b8 41 [vI 0, vS [], vW 0] :: Bk b7 35 (api_Record.c a1) :: OwS true 9 1 eS v19 r18 :: OwM vS api_Entry.v g2.m p21.2.2 :: OwM vW store_last.v g6 a0.sessions :: rO (policy_Policy.op pv22.2) pv22.1 p21.2.1 :: F)) ?_ fun K27 => ?_
        · intro pv22
          obtain ⟨pv23, g24⟩ := pv22
          refine x_seq ?_
          refine c_seq ?_
          refine c_seq ?_
          refine c_reg ?_
          refine r_u (o_fa fa35_4 rfl) ?_
          refine r_u (o_fa fa27_0 rfl) ?_
          refine r_u (o_ld 3 sc3 rfl rfl rfl) ?_
          refine r_u (o_bin rfl rfl (bI_eq a1.Op.Kind 5)) ?_
          refine r_nil ?_
          refine x_seq ?_
          refine c_if (b := (a1.Op.Kind == 5)) rfl (fun h28 => ?_) fun h28 => ?_
          · have hm29 := ift hm26 h28
            clear hm26
            refine c_seq ?_
            refine c_reg ?_
            refine r_u (o_bld [vI 0, vS [], vW 0] rfl (fun _ => by kernel_rfl)) ?_
            refine rl_st (fun _ h => mv2 h) ?_
            refine r_u0 (o_stn ag41 rfl rfl rfl rfl rfl rfl rfl) ?_
            refine r_u (o_as rfl) ?_
            refine r_nil ?_
            refine x_seq ?_
            refine c_ret ?_
            refine ex_st (fun _ h => mv2 (mv5 h)) ?_
            refine ex_st (fun _ h => st_some (f := table_Table.op g2) (a := (⟨p21.2.2, p21.1⟩ : table_Table)) (st_star_f (A := table_Table.fl b14 (⟨p21.2.2, p21.1⟩ : table_Table) g2) h)) ?_
            obtain rfl := Option.some.inj hm29
            exact x_d2 rfl (rv_n 1 [vI 0, vS [], vW 0] ag41 rfl rfl rfl rfl) (rv_t rfl) (fun _ h => st_pk 7 [2, 0, 6, 5] (by decide) h) (Le.refl _) ⟨_, rfl, (⟨(pt b14 0, g2), (pv23, g24), g6⟩ : store_Store.G), rfl, rfl, rfl⟩
          · have hm29 := iff_ hm26 h28
            clear hm26
            refine c_skip ?_
            refine x_seq ?_
            refine c_seq ?_
            refine c_any mixed (effs := [10, 11]) (V := []) ?_
            refine stage_ext [(0, pt b0_ 0), (1, pt b0_ 0), (2, pt b0_ 6), (3, g6), (4, pt b7 2), (5, vW a1.Session), (6, .tuple #[.agg [vW (((mget a0.sessions a1.Session).getD ((⟨0, (⟨0, [], 0⟩ : api_Reply)⟩ : store_last) : store_last)).num), vI ((((mget a0.sessions a1.Session).getD ((⟨0, (⟨0, [], 0⟩ : api_Reply)⟩ : store_last) : store_last)).reply).E), vS ((((mget a0.sessions a1.Session).getD ((⟨0, (⟨0, [], 0⟩ : api_Reply)⟩ : store_last) : store_last)).reply).Value), vW ((((mget a0.sessions a1.Session).getD ((⟨0, (⟨0, [], 0⟩ : api_Reply)⟩ : store_last) : store_last)).reply).Version)].toArray, vB ((mget a0.sessions a1.Session).isSome)]), (7, .tuple #[.agg [vW (((mget a0.sessions a1.Session).getD ((⟨0, (⟨0, [], 0⟩ : api_Reply)⟩ : store_last) : store_last)).num), vI ((((mget a0.sessions a1.Session).getD ((⟨0, (⟨0, [], 0⟩ : api_Reply)⟩ : store_last) : store_last)).reply).E), vS ((((mget a0.sessions a1.Session).getD ((⟨0, (⟨0, [], 0⟩ : api_Reply)⟩ : store_last) : store_last)).reply).Value), vW ((((mget a0.sessions a1.Session).getD ((⟨0, (⟨0, [], 0⟩ : api_Reply)⟩ : store_last) : store_last)).reply).Version)].toArray, vB ((mget a0.sessions a1.Session).isSome)]), (8, .agg [vW (((mget a0.sessions a1.Session).getD ((⟨0, (⟨0, [], 0⟩ : api_Reply)⟩ : store_last) : store_last)).num), vI ((((mget a0.sessions a1.Session).getD ((⟨0, (⟨0, [], 0⟩ : api_Reply)⟩ : store_last) : store_last)).reply).E), vS ((((mget a0.sessions a1.Session).getD ((⟨0, (⟨0, [], 0⟩ : api_Reply)⟩ : store_last) : store_last)).reply).Value), vW ((((mget a0.sessions a1.Session).getD ((⟨0, (⟨0, [], 0⟩ : api_Reply)⟩ : store_last) : store_last)).reply).Version)].toArray), (9, vB ((mget a0.sessions a1.Session).isSome))] rfl ?_
            refine stage rfl rfl rfl rfl [0, 1, 3, 7, 0, 16, 63, 127, 255, 255, 0, 1535, 4095] [0, 1, 2, 3, 4, 5, 6, 7, 8, 9] [10] rfl rfl rfl (qc rfl rfl (s_u (o_mv rfl)) (qc rfl rfl (s_u (o_nc rfl)) (qc rfl rfl (s_u (o_fa fa96_3 rfl)) (qc rfl rfl (s_u (o_ld 1 sc94 rfl rfl rfl)) (qc rfl rfl (s_u (o_fa fa35_2 rfl)) (qc rfl rfl (s_u (o_ld 3 sc22 rfl rfl rfl)) (qc rfl rfl (s_u (o_lk (kv := vW) (vv := store_last.v) (key := a1.Session) (z0 := ((⟨0, (⟨0, [], 0⟩ : api_Reply)⟩ : store_last) : store_last)) 6 Tryz.underlying94 (kok_W Tryz.underlying22) (fun _ => by kernel_rfl) rfl rfl rfl)) (qc rfl rfl (s_u (o_mv rfl)) (qc rfl rfl (s_u (o_ext rfl rfl)) (qc rfl rfl (s_u (o_ext rfl rfl)) qn)))))))))) ?_ (fun h => absurd h (by decide))
            refine ec (eo_n rfl (s_w (o_al ze102)) fun b30 => ?_) en
            refine stage rfl rfl rfl rfl [0, 1, 3, 7, 0, 16, 63, 127, 255, 255, 0, 1535, 4095] [0, 1, 2, 3, 4, 5, 6, 7, 8, 9] [11] rfl rfl rfl (qc rfl rfl (s_u (o_mv rfl)) (qc rfl rfl (s_u (o_nc rfl)) (qc rfl rfl (s_u (o_fa fa96_3 rfl)) (qc rfl rfl (s_u (o_ld 2 sc94 rfl rfl rfl)) (qc rfl rfl (s_u (o_fa fa35_2 rfl)) (qc rfl rfl (s_u (o_ld 4 sc22 rfl rfl rfl)) (qc rfl rfl (s_u (o_lk (kv := vW) (vv := store_last.v) (key := a1.Session) (z0 := ((⟨0, (⟨0, [], 0⟩ : api_Reply)⟩ : store_last) : store_last)) 7 Tryz.underlying94 (kok_W Tryz.underlying22) (fun _ => by kernel_rfl) rfl rfl rfl)) (qc rfl rfl (s_u (o_mv rfl)) (qc rfl rfl (s_u (o_ext rfl rfl)) (qc rfl rfl (s_u (o_ext rfl rfl)) qn)))))))))) ?_ (fun h => absurd h (by decide))
            refine ec (eo_u rfl (s_u (o_stn ag102 rfl rfl rfl rfl rfl rfl rfl)) (Le.refl _) ?_) en
            refine stage_ext [(12, vB ((mget a0.sessions a1.Session).isSome))] rfl ?_
            refine stage rfl rfl rfl rfl [0, 1, 3, 7, 0, 16, 63, 127, 255, 255, 0, 1535, 4095] [9, 12] [] rfl rfl rfl (qc rfl rfl (s_u (o_ext rfl rfl)) (qc rfl rfl (s_u (o_as rfl)) qn)) en ?_
            intro _
            refine ex_sub (E' := [(0, pt b0_ 0), (3, pt b7 0), (4, pt b8 0), (8, pt b30 0), (9, vB ((mget a0.sessions a1.Session).isSome))]) ⟨rfl, rfl, rfl, rfl, rfl, trivial⟩ ?_
            refine x_seq ?_
            refine c_seq ?_
            refine c_blk ?_
            refine c_seq ?_
            refine c_reg ?_
            refine r_u (o_mv rfl) ?_
            refine r_u (o_mv rfl) ?_
            refine r_s (s_gt rfl rfl fun g => o_fa fa35_3 rfl) ?_
            refine r_s (s_gt rfl rfl fun g => o_ld 4 sc22 (evg rfl g) rfl rfl) ?_
            refine r_s (s_gt rfl rfl fun g => o_fa fa102_0 rfl) ?_
            refine r_s (s_gt rfl rfl fun g => o_ld 0 sc22 (evg rfl g) rfl rfl) ?_
            refine r_s (s_gt rfl rfl fun g => o_bin (evg rfl g) (evg rfl g) (bW_eq a1.Num (((mget a0.sessions a1.Session).getD ((⟨0, (⟨0, [], 0⟩ : api_Reply)⟩ : store_last) : store_last)).num))) ?_
            refine r_u (o_and rfl rfl) ?_
            refine r_u (o_as rfl) ?_
            refine r_nil ?_
            refine x_seq ?_
            refine c_if (b := ((mget a0.sessions a1.Session).isSome && (a1.Num == (((mget a0.sessions a1.Session).getD ((⟨0, (⟨0, [], 0⟩ : api_Reply)⟩ : store_last) : store_last)).num)))) rfl (fun h31 => ?_) fun h31 => ?_
            · have hm32 := ift hm29 h31
              clear hm29
              refine c_seq ?_
              refine c_reg ?_
              refine r_u (o_fa fa102_1 rfl) ?_
              refine r_u (o_ldn 0 (api_Reply.c (((mget a0.sessions a1.Session).getD ((⟨0, (⟨0, [], 0⟩ : api_Reply)⟩ : store_last) : store_last)).reply)) ag41 rfl rfl rfl rfl) ?_
              refine rl_st (fun _ h => mv3 h) ?_
              refine r_u0 (o_stn ag41 rfl rfl rfl rfl rfl rfl rfl) ?_
              refine r_u (o_as rfl) ?_
              refine r_nil ?_
              refine x_seq ?_
              refine c_ret ?_
              refine ex_st (fun _ h => mv3 (mv6 h)) ?_
              refine ex_st (fun _ h => st_some (f := table_Table.op g2) (a := (⟨p21.2.2, p21.1⟩ : table_Table)) (st_star_f (A := table_Table.fl b14 (⟨p21.2.2, p21.1⟩ : table_Table) g2) h)) ?_
              obtain rfl := Option.some.inj hm32
              exact x_d2 rfl (rv_n 1 (api_Reply.c (((mget a0.sessions a1.Session).getD ((⟨0, (⟨0, [], 0⟩ : api_Reply)⟩ : store_last) : store_last)).reply)) ag41 rfl rfl rfl rfl) (rv_t rfl) (fun _ h => st_pk 8 [3, 0, 7, 6] (by decide) h) (Le.refl _) ⟨_, rfl, (⟨(pt b14 0, g2), (pv23, g24), g6⟩ : store_Store.G), rfl, rfl, rfl⟩
            · have hm32 := iff_ hm29 h31
              clear hm29
              refine c_seq ?_
              refine c_reg ?_
              refine r_u (o_mv rfl) ?_
              refine r_u (o_mv rfl) ?_
              refine r_s (s_gt rfl rfl fun g => o_fa fa35_3 rfl) ?_
              refine r_s (s_gt rfl rfl fun g => o_ld 4 sc22 (evg rfl g) rfl rfl) ?_
              refine r_s (s_gt rfl rfl fun g => o_fa fa102_0 rfl) ?_
              refine r_s (s_gt rfl rfl fun g => o_ld 0 sc22 (evg rfl g) rfl rfl) ?_
              refine r_s (s_gt rfl rfl fun g => o_bin (evg rfl g) (evg rfl g) (bW_lt a1.Num (((mget a0.sessions a1.Session).getD ((⟨0, (⟨0, [], 0⟩ : api_Reply)⟩ : store_last) : store_last)).num))) ?_
              refine r_u (o_and rfl rfl) ?_
              refine r_u (o_as rfl) ?_
              refine r_nil ?_
              refine x_seq ?_
              refine c_if (b := ((mget a0.sessions a1.Session).isSome && decide (a1.Num < (((mget a0.sessions a1.Session).getD ((⟨0, (⟨0, [], 0⟩ : api_Reply)⟩ : store_last) : store_last)).num)))) rfl (fun h33 => ?_) fun h33 => ?_
              · have hm34 := ift hm32 h33
                clear hm32
                refine c_seq ?_
                refine c_reg ?_
                refine r_u (o_bld [vI 122, vS [], vW 0] rfl (fun _ => by kernel_rfl)) ?_
                refine rl_st (fun _ h => mv3 h) ?_
                refine r_u0 (o_stn ag41 rfl rfl rfl rfl rfl rfl rfl) ?_
                refine r_u (o_as rfl) ?_
                refine r_nil ?_
                refine x_seq ?_
                refine c_ret ?_
                refine ex_st (fun _ h => mv3 (mv6 h)) ?_
                refine ex_st (fun _ h => st_some (f := table_Table.op g2) (a := (⟨p21.2.2, p21.1⟩ : table_Table)) (st_star_f (A := table_Table.fl b14 (⟨p21.2.2, p21.1⟩ : table_Table) g2) h)) ?_
                obtain rfl := Option.some.inj hm34
                exact x_d2 rfl (rv_n 1 [vI 122, vS [], vW 0] ag41 rfl rfl rfl rfl) (rv_t rfl) (fun _ h => st_pk 8 [3, 0, 7, 6] (by decide) h) (Le.refl _) ⟨_, rfl, (⟨(pt b14 0, g2), (pv23, g24), g6⟩ : store_Store.G), rfl, rfl, rfl⟩
              · have hm34 := iff_ hm32 h33
                clear hm32
                refine c_seq ?_
                refine c_reg ?_
                refine r_u (o_mv rfl) ?_
                refine r_u (o_not rfl) ?_
                refine r_u (o_mv rfl) ?_
                refine r_s (s_gt rfl rfl fun g => o_mv rfl) ?_
                refine r_s (s_gt rfl rfl fun g => o_nc (evg rfl g)) ?_
                refine r_s (s_gt rfl rfl fun g => o_fa fa96_3 (evg rfl g)) ?_
                refine r_s (s_gt rfl rfl fun g => o_ld 2 sc94 (evg rfl g) rfl rfl) ?_
                refine r_s (s_gt rfl rfl fun g => o_lenM (kv := vW) (vv := store_last.v) 7 Tryz.underlying94 (evg rfl g) rfl) ?_
                refine r_s (s_gt rfl rfl fun g => o_bin (evg rfl g) rfl (bI_ge (a0.sessions.length : Int) 64)) ?_
                refine r_u (o_and rfl rfl) ?_
                refine r_u (o_as rfl) ?_
                refine r_nil ?_
                refine x_seq ?_
                refine c_if (b := (!((mget a0.sessions a1.Session).isSome) && decide (64 ≤ (a0.sessions.length : Int)))) rfl (fun h35 => ?_) fun h35 => ?_
                · have hm36 := ift hm34 h35
                  clear hm34
                  refine c_seq ?_
                  refine c_reg ?_
                  refine r_u (o_bld [vI 3, vS [], vW 0] rfl (fun _ => by kernel_rfl)) ?_
                  refine rl_st (fun _ h => mv3 h) ?_
                  refine r_u0 (o_stn ag41 rfl rfl rfl rfl rfl rfl rfl) ?_
                  refine r_u (o_as rfl) ?_
                  refine r_nil ?_
                  refine x_seq ?_
                  refine c_ret ?_
                  refine ex_st (fun _ h => mv3 (mv6 h)) ?_
                  refine ex_st (fun _ h => st_some (f := table_Table.op g2) (a := (⟨p21.2.2, p21.1⟩ : table_Table)) (st_star_f (A := table_Table.fl b14 (⟨p21.2.2, p21.1⟩ : table_Table) g2) h)) ?_
                  obtain rfl := Option.some.inj hm36
                  exact x_d2 rfl (rv_n 1 [vI 3, vS [], vW 0] ag41 rfl rfl rfl rfl) (rv_t rfl) (fun _ h => st_pk 8 [3, 0, 7, 6] (by decide) h) (Le.refl _) ⟨_, rfl, (⟨(pt b14 0, g2), (pv23, g24), g6⟩ : store_Store.G), rfl, rfl, rfl⟩
                · have hm36 := iff_ hm34 h35
                  clear hm34
                  refine c_skip ?_
                  refine x_blk ?_
                  refine x_seq ?_
                  refine c_seq ?_
                  refine c_reg ?_
                  refine r_u (o_mv rfl) ?_
                  refine r_u (o_fa fa35_4 rfl) ?_
                  refine r_u (o_ldn 4 (api_Op.c a1.Op) ag27 rfl rfl rfl rfl) ?_
                  refine rl_st (fun _ h => mv2 (mv6 h)) ?_
                  refine rl_st (fun _ h => st_some (f := table_Table.op g2) (a := (⟨p21.2.2, p21.1⟩ : table_Table)) (st_star_f (A := table_Table.fl b14 (⟨p21.2.2, p21.1⟩ : table_Table) g2) h)) ?_
                  obtain ⟨r37, hr37, hm46⟩ := bs hm36
                  clear hm36
                  refine rl_st (fun _ h => mv4 (mv2 (mv7 (mv6 h)))) ?_
                  refine r_sw (s_w (o_call ca38 rfl (store_Store_do.ok b0_ (⟨a0.c, (some (⟨p21.2.2, p21.1⟩ : table_Table)), p21.2.1, a0.sessions, a0.seq + 1, (if a0.now < a1.Now then a1.Now else a0.now), a0.version, a0.tally⟩ : store_Store) (⟨(pt b14 0, g2), (pv23, g24), g6⟩ : store_Store.G) a1.Op r37 hr37))) ?_
                  rintro _ R _ _ ⟨⟨⟨pv40, g41⟩, ⟨pv43, g44⟩, g45⟩, rfl, rfl, rfl⟩
                  refine r_new (o_al ze41) fun b47 => ?_
                  refine r_u0 (o_stn ag41 rfl rfl rfl rfl rfl rfl rfl) ?_
                  refine r_nil ?_
                  refine x_seq ?_
                  refine c_seq ?_
                  refine c_any mixed (effs := [10]) (V := []) ?_
                  refine stage_st (fun _ h => mv4 h) ?_
                  refine stage_ext [(0, pt b0_ 0), (1, pt b0_ 0), (2, pt b0_ 6), (3, g45), (4, pt b7 2), (5, vW a1.Session), (6, pt b7 3), (7, vW a1.Num), (8, .agg (api_Reply.c r37.1).toArray), (9, .agg [vW a1.Num, vI r37.1.E, vS r37.1.Value, vW r37.1.Version].toArray)] rfl ?_
                  refine stage rfl rfl rfl rfl [0, 1, 3, 7, 0, 16, 0, 64, 0, 448, 1023] [0, 1, 2, 3, 4, 5, 6, 7, 8, 9] [10] rfl rfl rfl (qc rfl rfl (s_u (o_mv rfl)) (qc rfl rfl (s_u (o_nc rfl)) (qc rfl rfl (s_u (o_fa fa96_3 rfl)) (qc rfl rfl (s_u (o_ld 2 sc94 rfl rfl rfl)) (qc rfl rfl (s_u (o_fa fa35_2 rfl)) (qc rfl rfl (s_u (o_ld 7 sc22 rfl rfl rfl)) (qc rfl rfl (s_u (o_fa fa35_3 rfl)) (qc rfl rfl (s_u (o_ld 7 sc22 rfl rfl rfl)) (qc rfl rfl (s_u (o_ldn 1 (api_Reply.c r37.1) ag41 rfl rfl rfl rfl)) (qc rfl rfl (s_u (o_bld [vW a1.Num, vI r37.1.E, vS r37.1.Value, vW r37.1.Version] rfl (fun _ => by kernel_rfl))) qn)))))))))) ?_ (fun h => absurd h (by decide))
                  refine ec (eo_u rfl (s_u (o_mu (kv := vW) (vv := store_last.v) (key := a1.Session) (val := (⟨a1.Num, r37.1⟩ : store_last)) Tryz.underlying94 (kok_W Tryz.underlying22) rfl rfl rfl rfl)) (Le.refl _) ?_) en
                  refine stage rfl rfl rfl rfl [0, 1, 3, 7, 0, 16, 0, 64, 0, 448, 1023] [] [] rfl rfl rfl qn en ?_
                  intro _
                  refine ex_sub (E' := [(4, pt b8 0), (10, pt b47 0)]) ⟨rfl, rfl, trivial⟩ ?_
                  refine x_seq ?_
                  refine c_seq ?_
                  refine c_reg ?_
                  refine r_u (o_ldn 1 (api_Reply.c r37.1) ag41 rfl rfl rfl rfl) ?_
                  refine rl_st (fun _ h => mv6 h) ?_
                  refine r_u0 (o_stn ag41 rfl rfl rfl rfl rfl rfl rfl) ?_
                  refine r_u (o_as rfl) ?_
                  refine r_nil ?_
                  refine x_seq ?_
                  refine c_ret ?_
                  obtain rfl := Option.some.inj hm46
                  exact x_d2 rfl (rv_n 0 (api_Reply.c r37.1) ag41 rfl rfl rfl rfl) (rv_t rfl) (fun _ h => st_pk 9 [3, 4, 5, 1] (by decide) h) (Le.refl _) ⟨_, rfl, (⟨(pv40, g41), (pv43, g44), g45⟩ : store_Store.G), rfl, rfl, rfl⟩
        · refine c_blk ?_
          refine cd_loopG (M := fun k55 (s : Int × Int × Option policy_Policy × (List (Str × api_Entry)) × (Value × policy_Policy.G)) => store_Store_Apply_l0 r18 k55 s.1 s.2.1 s.2.2.1 s.2.2.2.1 = some p21) (Ef := fun (s : Int × Int × Option policy_Policy × (List (Str × api_Entry)) × (Value × policy_Policy.G)) => [(0, pt b0_ 0), (3, pt b7 0), (4, pt b8 0), (61, v19), (62, vI (r18.length : Int)), (63, vI s.1)]) (Rf := fun (s : Int × Int × Option policy_Policy × (List (Str × api_Entry)) × (Value × policy_Policy.G)) => R) (Lf := fun (s : Int × Int × Option policy_Policy × (List (Str × api_Entry)) × (Value × policy_Policy.G)) => Bk b14 138 [g2.m, vI s.2.1] :: Bk b0_ 96 [vI a0.c.Policy, vI a0.c.Entries, vI a0.c.Bytes, vW a0.c.Seed, pt b14 0, s.2.2.2.2.1, g6, vW (a0.seq + 1), vW (if a0.now < a1.Now then a1.Now else a0.now), vW a0.version, vI a0.tally.Asked, vI a0.tally.Hits] :: Bk b8 41 [vI 0, vS [], vW 0] :: Bk b7 35 (api_Record.c a1) :: OwS true 9 1 eS v19 r18 :: OwM vS api_Entry.v g2.m s.2.2.2.1 :: OwM vW store_last.v g6 a0.sessions :: rO (policy_Policy.op s.2.2.2.2.2) s.2.2.2.2.1 s.2.2.1 :: F) (((r18.length : Int) - 0).toNat + 1) (0, x13.bytes, a0.p, x13.m, (pv4, g5)) hp25 ⟨rfl, rfl, rfl, rfl, rfl, rfl, trivial⟩ (fun _ h => st_pk 8 [1, 3, 4, 5, 0, 2, 7, 6] (by decide) h) (fun _ h => by cases h) fun k55 s hM57 => ?_
          obtain ⟨s_48, c_49, c_50, c_51, pv52⟩ := s
          have hm56 : store_Store_Apply_l0 r18 (k55 + 1) s_48 c_49 c_50 c_51 = some p21 := hM57
          rw [store_Store_Apply_l0] at hm56
          obtain ⟨pv53, g54⟩ := pv52
          refine c_seq ?_
          refine c_reg ?_
          refine r_u (o_bin rfl rfl (bI_lt s_48 (r18.length : Int))) ?_
          refine r_nil ?_
          refine x_seq ?_
          refine c_seq ?_
          refine c_if (b := decide (s_48 < (r18.length : Int))) rfl (fun h58 => ?_) fun h58 => ?_
          · have hm59 := ift hm56 h58
            clear hm56
            refine c_skip ?_
            refine x_seq ?_
            refine c_seq ?_
            refine c_blk ?_
            refine c_seq ?_
            refine c_reg ?_
            obtain ⟨x60, hx60, hm61⟩ := bs hm59
            clear hm59
            refine r_u (o_ixO 4 Tryz.underlying98 (fun _ => by kernel_rfl) rfl rfl rfl hx60) ?_
            refine r_u (o_ldO0 4 sc9 rfl rfl hx60 rfl rfl) ?_
            refine r_u (o_as rfl) ?_
            refine r_nil ?_
            refine x_seq ?_
            refine c_seq ?_
            refine c_reg ?_
            refine r_u (o_mv rfl) ?_
            refine r_u (o_nc rfl) ?_
            refine r_u (o_fa fa96_1 rfl) ?_
            refine r_u (o_ld 1 sc92 rfl rfl rfl) ?_
            refine r_u (o_mv rfl) ?_
            obtain ⟨r62, hr62, hm63⟩ := ltx hm61
            clear hm61
            refine rl_st (fun _ h => mv1 (mv5 h)) ?_
            refine r_c (s_w (o_call ca36 rfl (table_Table_Drop.ok b14 (⟨c_51, c_49⟩ : table_Table) g2 x60 r62 hr62))) ?_
            refine r_nil ?_
            refine x_seq ?_
            refine cd_st (fun _ h => mv7 h) ?_
            refine cd_opt (fun ho66 => ?_) (fun x64 b65 ho66 => ?_)
            · rintro rfl
              have hm67 := om_n hm63 ho66
              clear hm63
              cases hm67
            · rintro rfl
              have hm67 := om_s hm63 ho66
              clear hm63
              obtain ⟨⟨pv69, g70⟩, ⟨pv72, g73⟩⟩ := g54
              refine cd_st (fun _ h => st_star_o h) ?_
              refine c_reg ?_
              refine r_u (o_mv rfl) ?_
              refine r_u (o_nc rfl) ?_
              refine r_u (o_fa fa96_2 rfl) ?_
              refine r_u (o_ld 5 sc93 rfl rfl rfl) ?_
              refine r_u (o_mv rfl) ?_
              obtain ⟨r74, hr74, hm82⟩ := bs hm67
              clear hm67
              refine r_sw (s_w (o_call ca37 rfl (policy_Policy_Remove.ok b65 x64 (⟨(pv69, g70), (pv72, g73)⟩ : policy_Policy.G) x60 r74 hr74))) ?_
              rintro _ R _ _ ⟨⟨⟨pv77, g78⟩, ⟨pv80, g81⟩⟩, rfl, rfl, rfl⟩
              refine r_nil ?_
              refine x_blk ?_
              refine x_seq ?_
              refine c_reg ?_
              refine r_u (o_bin rfl rfl (bI_add s_48 1)) ?_
              refine r_u (o_mv rfl) ?_
              refine r_nil ?_
              refine ex_st (fun _ h => st_some (f := policy_Policy.op (⟨(pv77, g78), (pv80, g81)⟩ : policy_Policy.G)) (a := r74.2) (st_star_f (A := policy_Policy.fl b65 r74.2 (⟨(pv77, g78), (pv80, g81)⟩ : policy_Policy.G)) h)) ?_
              exact x_lp (i64 (s_48 + 1), r62.2.bytes, (some r74.2), r62.2.m, (pt b65 0, (⟨(pv77, g78), (pv80, g81)⟩ : policy_Policy.G))) hm82 ⟨rfl, rfl, rfl, rfl, rfl, rfl, trivial⟩ (fun _ h => st_pk 8 [1, 3, 4, 5, 6, 2, 7, 0] (by decide) h)
          · have hm59 := iff_ hm56 h58
            clear hm56
            refine c_exit (x_exit (ks' := _) rfl ?_)
            obtain rfl := Option.some.inj hm59
            exact x_sub (K27 (pv53, g54)) ⟨rfl, rfl, rfl, trivial⟩ (fun _ h => st_pk 8 [0, 1, 2, 3, 4, 5, 6, 7] (by decide) h)

def store_Store_Seq (a0 : store_Store) : UInt64 :=
  a0.seq
theorem store_Store_Seq.ok {G R F} (b0_ : Nat) (a0 : store_Store) (g0_ : store_Store.G) (r : UInt64) (hm : store_Store_Seq a0 = r) : CO Tryz.prog 14 [pt b0_ 0] G R (Bk b0_ 96 [vI a0.c.Policy, vI a0.c.Entries, vI a0.c.Bytes, vW a0.c.Seed, g0_.t.1, g0_.p.1, g0_.sessions, vW a0.seq, vW a0.now, vW a0.version, vI a0.tally.Asked, vI a0.tally.Hits] :: rO (table_Table.op g0_.t.2) g0_.t.1 a0.t :: rO (policy_Policy.op g0_.p.2) g0_.p.1 a0.p :: OwM vW store_last.v g0_.sessions a0.sessions :: F)
    (Ret fun u R' L' => u = vW r ∧ R' = R ∧ L' = Bk b0_ 96 [vI a0.c.Policy, vI a0.c.Entries, vI a0.c.Bytes, vW a0.c.Seed, g0_.t.1, g0_.p.1, g0_.sessions, vW a0.seq, vW a0.now, vW a0.version, vI a0.tally.Asked, vI a0.tally.Hits] :: rO (table_Table.op g0_.t.2) g0_.t.1 a0.t :: rO (policy_Policy.op g0_.p.2) g0_.p.1 a0.p :: OwM vW store_last.v g0_.sessions a0.sessions :: F) := by
  obtain ⟨⟨pv1, g2⟩, ⟨pv4, g5⟩, g6⟩ := g0_
  unfold store_Store_Seq at hm
  refine co_ofN (N := 9) Tryz.func14 rfl rfl ?_
  refine c_seq ?_
  refine c_reg ?_
  refine r_u (o_as rfl) ?_
  refine r_nil ?_
  refine x_seq ?_
  refine c_seq ?_
  refine c_seq ?_
  refine c_reg ?_
  refine r_u (o_mv rfl) ?_
  refine r_u (o_bin rfl rfl (bP_eqp Tryz.underlying30)) ?_
  refine r_nil ?_
  refine x_seq ?_
  refine c_ff rfl ?_
  refine c_skip ?_
  refine x_seq ?_
  refine c_seq ?_
  refine c_reg ?_
  refine r_u (o_mv rfl) ?_
  refine r_u (o_nc rfl) ?_
  refine r_u (o_fa fa96_4 rfl) ?_
  refine r_u (o_ld 0 sc22 rfl rfl rfl) ?_
  refine r_u (o_as rfl) ?_
  refine r_nil ?_
  refine x_seq ?_
  refine c_ret ?_
  subst hm
  exact x_r1 rfl (rv_t rfl) (Le.refl _) ⟨_, rfl, rfl, rfl, rfl⟩

def store_Store_Entries_l0 (r12 : List Str) (x7 : table_Table) : Nat → (List api_Entry) → Int → Option (List api_Entry)
  | 0, _, _ => none
  | k23 + 1, out_20, s_21 => if decide (s_21 < (r12.length : Int)) then (gi r12 s_21).bind fun x28 => lt (table_Table_Get x7 x28) fun r30 => (apd 48 out_20 [r30.1]).bind fun l35 => store_Store_Entries_l0 r12 x7 k23 l35 (i64 (s_21 + 1)) else some out_20
def store_Store_Entries (a0 : store_Store) : Option (List api_Entry) :=
  om a0.t (none) fun x7 => (table_Table_Keys x7).bind fun r12 => Option.bind (store_Store_Entries_l0 r12 x7 (((r12.length : Int) - 0).toNat + 1) [] 0) fun p15 => some p15
theorem store_Store_Entries.ok {G R F} (b0_ : Nat) (a0 : store_Store) (g0_ : store_Store.G) (r : List api_Entry) (hm : store_Store_Entries a0 = some r) : CO Tryz.prog 16 [pt b0_ 0] G R (Bk b0_ 96 [vI a0.c.Policy, vI a0.c.Entries, vI a0.c.Bytes, vW a0.c.Seed, g0_.t.1, g0_.p.1, g0_.sessions, vW a0.seq, vW a0.now, vW a0.version, vI a0.tally.Asked, vI a0.tally.Hits] :: rO (table_Table.op g0_.t.2) g0_.t.1 a0.t :: rO (policy_Policy.op g0_.p.2) g0_.p.1 a0.p :: OwM vW store_last.v g0_.sessions a0.sessions :: F)
    (Ret fun u R' L' => ∃ p0, u = p0 ∧ R' = R ∧ L' = OwS true 50 4 api_Entry.c p0 r :: Bk b0_ 96 [vI a0.c.Policy, vI a0.c.Entries, vI a0.c.Bytes, vW a0.c.Seed, g0_.t.1, g0_.p.1, g0_.sessions, vW a0.seq, vW a0.now, vW a0.version, vI a0.tally.Asked, vI a0.tally.Hits] :: rO (table_Table.op g0_.t.2) g0_.t.1 a0.t :: rO (policy_Policy.op g0_.p.2) g0_.p.1 a0.p :: OwM vW store_last.v g0_.sessions a0.sessions :: F) := by
  obtain ⟨⟨pv1, g2⟩, ⟨pv4, g5⟩, g6⟩ := g0_
  unfold store_Store_Entries at hm
  refine co_ofN (N := 35) Tryz.func16 rfl rfl ?_
  refine c_seq ?_
  refine c_reg ?_
  refine r_u (o_as rfl) ?_
  refine r_nil ?_
  refine x_seq ?_
  refine c_seq ?_
  refine c_seq ?_
  refine c_reg ?_
  refine r_u (o_mv rfl) ?_
  refine r_u (o_bin rfl rfl (bP_eqp Tryz.underlying30)) ?_
  refine r_nil ?_
  refine x_seq ?_
  refine c_ff rfl ?_
  refine c_skip ?_
  refine x_seq ?_
  refine c_seq ?_
  refine c_reg ?_
  refine r_u (o_as rfl) ?_
  refine r_nil ?_
  refine x_seq ?_
  refine c_seq ?_
  refine c_seq ?_
  refine cd_st (fun _ h => mv1 h) ?_
  refine cd_opt (fun ho9 => ?_) (fun x7 b8 ho9 => ?_)
  · rintro rfl
    have hm10 := om_n hm ho9
    clear hm
    cases hm10
  · rintro rfl
    have hm10 := om_s hm ho9
    clear hm
    refine cd_st (fun _ h => st_star_o h) ?_
    refine c_reg ?_
    refine r_u (o_mv rfl) ?_
    refine r_u (o_nc rfl) ?_
    refine r_u (o_fa fa96_1 rfl) ?_
    refine r_u (o_ld 2 sc92 rfl rfl rfl) ?_
    obtain ⟨r12, hr12, hm14⟩ := bs hm10
    clear hm10
    refine r_sw (s_w (o_call ca39 rfl (table_Table_Keys.ok b8 x7 g2 r12 hr12))) ?_
    rintro v13 R _ _ ⟨_, rfl, rfl, rfl⟩
    refine r_u (o_lenO 0 Tryz.underlying98 rfl rfl) ?_
    refine r_u (o_mv rfl) ?_
    refine r_nil ?_
    refine x_seq ?_
    obtain ⟨p15, hp17, hm18⟩ := bs hm14
    refine cd_cut (fun x ks => ∀ (g16 : Value), EX x .normal ks [(3, g16)] R (Bk b8 138 [g2.m, vI x7.bytes] :: Bk b0_ 96 [vI a0.c.Policy, vI a0.c.Entries, vI a0.c.Bytes, vW a0.c.Seed, pt b8 0, pv4, g6, vW a0.seq, vW a0.now, vW a0.version, vI a0.tally.Asked, vI a0.tally.Hits] :: OwS true 9 1 eS v13 r12 :: OwM vS api_Entry.v g2.m x7.m :: rO (policy_Policy.op g5) pv4 a0.p :: OwM vW store_last.v g6 a0.sessions :: OwS true 50 4 api_Entry.c g16 p15 :: F)) ?_ fun K19 => ?_
    · intro g16
      refine x_seq ?_
      refine c_seq ?_
      refine c_reg ?_
      refine r_u (o_mv rfl) ?_
      refine r_u (o_as rfl) ?_
      refine r_nil ?_
      refine x_seq ?_
      refine c_ret ?_
      refine ex_st (fun _ h => mv1 (mv3 h)) ?_
      refine ex_st (fun _ h => st_some (f := table_Table.op g2) (a := x7) (st_star_f (A := table_Table.fl b8 x7 g2) h)) ?_
      refine ex_st (fun _ h => st_back ho9 h) ?_
      obtain rfl := Option.some.inj hm18
      refine ex_st (fun _ h => st_pk 6 [5, 1, 0, 3, 4] (by decide) h) ?_
      exact x_r1 rfl (rv_t rfl) (Le.refl _) ⟨_, rfl, g16, rfl, rfl, rfl⟩
    · refine c_blk ?_
      refine cd_st (fun _ h => st_nil (ap := true) (T := 50) (sz := 4) (en := api_Entry.c) h) ?_
      refine cd_loopG (M := fun k23 (s : List api_Entry × Int × Value) => store_Store_Entries_l0 r12 x7 k23 s.1 s.2.1 = some p15) (Ef := fun (s : List api_Entry × Int × Value) => [(0, pt b0_ 0), (14, v13), (15, vI (r12.length : Int)), (3, s.2.2), (16, vI s.2.1)]) (Rf := fun (s : List api_Entry × Int × Value) => R) (Lf := fun (s : List api_Entry × Int × Value) => Bk b8 138 [g2.m, vI x7.bytes] :: Bk b0_ 96 [vI a0.c.Policy, vI a0.c.Entries, vI a0.c.Bytes, vW a0.c.Seed, pt b8 0, pv4, g6, vW a0.seq, vW a0.now, vW a0.version, vI a0.tally.Asked, vI a0.tally.Hits] :: OwS true 9 1 eS v13 r12 :: OwM vS api_Entry.v g2.m x7.m :: rO (policy_Policy.op g5) pv4 a0.p :: OwM vW store_last.v g6 a0.sessions :: OwS true 50 4 api_Entry.c s.2.2 s.1 :: F) (((r12.length : Int) - 0).toNat + 1) ([], 0, .slice none 0 0) hp17 ⟨rfl, rfl, rfl, rfl, rfl, trivial⟩ (fun _ h => st_pk 7 [2, 4, 1, 3, 5, 6, 0] (by decide) h) (fun _ h => by cases h) fun k23 s hM25 => ?_
      obtain ⟨out_20, s_21, g22⟩ := s
      have hm24 : store_Store_Entries_l0 r12 x7 (k23 + 1) out_20 s_21 = some p15 := hM25
      rw [store_Store_Entries_l0] at hm24
      refine c_seq ?_
      refine c_reg ?_
      refine r_u (o_bin rfl rfl (bI_lt s_21 (r12.length : Int))) ?_
      refine r_nil ?_
      refine x_seq ?_
      refine c_seq ?_
      refine c_if (b := decide (s_21 < (r12.length : Int))) rfl (fun h26 => ?_) fun h26 => ?_
      · have hm27 := ift hm24 h26
        clear hm24
        refine c_skip ?_
        refine x_seq ?_
        refine c_seq ?_
        refine c_blk ?_
        refine c_seq ?_
        refine c_reg ?_
        obtain ⟨x28, hx28, hm29⟩ := bs hm27
        clear hm27
        refine r_u (o_ixO 2 Tryz.underlying98 (fun _ => by kernel_rfl) rfl rfl rfl hx28) ?_
        refine r_u (o_ldO0 2 sc9 rfl rfl hx28 rfl rfl) ?_
        refine r_u (o_as rfl) ?_
        refine r_nil ?_
        refine x_seq ?_
        refine c_seq ?_
        refine c_reg ?_
        refine r_u (o_mv rfl) ?_
        refine r_u (o_nc rfl) ?_
        refine r_u (o_fa fa96_1 rfl) ?_
        refine r_u (o_ld 1 sc92 rfl rfl rfl) ?_
        refine r_u (o_mv rfl) ?_
        obtain ⟨r30, hr30, hm31⟩ := ltx hm29
        clear hm29
        refine rl_st (fun _ h => mv1 (mv3 h)) ?_
        refine r_c (s_w (o_call ca40 rfl (table_Table_Get.ok b8 x7 g2 x28 r30 hr30))) ?_
        refine r_u (o_mv rfl) ?_
        refine r_u (o_ext rfl rfl) ?_
        refine r_u (o_ext rfl rfl) ?_
        refine r_new (o_al ze50) fun b32 => ?_
        refine r_u0 (o_stn ag50 rfl rfl rfl rfl rfl rfl rfl) ?_
        refine r_u (o_as rfl) ?_
        refine r_nil ?_
        refine x_seq ?_
        refine c_reg ?_
        refine r_u (o_mv rfl) ?_
        refine r_u (o_ldn 0 (api_Entry.c r30.1) ag50 rfl rfl rfl rfl) ?_
        refine r_sw (s_w (o_bsl (en := api_Entry.c) (sz := 4) (e := 50) (cs := [vS r30.1.Key, vS r30.1.Value, vW r30.1.Version, vW r30.1.End]) (r := [r30.1]) rfl (fun _ => by kernel_rfl) rfl (by decide) rfl (fun _ => rfl))) ?_
        rintro v33 R _ _ ⟨rfl, rfl⟩
        obtain ⟨l35, hl35, hm36⟩ := bs hm31
        clear hm31
        refine rl_st (fun _ h => mv8 h) ?_
        refine r_sw (s_w (o_ap (sz := 4) (bytes := 48) 0 Tryz.underlying44 rfl rfl rfl rfl rfl (by decide) (by decide) (fun _ _ _ h => by simp [api_Entry.c] at h; rcases h with rfl | rfl | rfl | rfl <;> rfl) (fun _ => rfl) rfl rfl rfl rfl (Nat.succ_pos _) hl35)) ?_
        rintro v34 R _ _ ⟨rfl, rfl⟩
        refine r_u (o_as rfl) ?_
        refine r_nil ?_
        refine x_blk ?_
        refine x_seq ?_
        refine c_reg ?_
        refine r_u (o_bin rfl rfl (bI_add s_21 1)) ?_
        refine r_u (o_mv rfl) ?_
        refine r_nil ?_
        exact x_lp (l35, i64 (s_21 + 1), v34) hm36 ⟨rfl, rfl, rfl, rfl, rfl, trivial⟩ (fun _ h => st_pk 9 [3, 5, 6, 4, 7, 8, 0] (by decide) h)
      · have hm27 := iff_ hm24 h26
        clear hm24
        refine c_exit (x_exit (ks' := _) rfl ?_)
        obtain rfl := Option.some.inj hm27
        exact x_sub (K19 g22) ⟨rfl, trivial⟩ (fun _ h => st_pk 7 [0, 1, 2, 3, 4, 5, 6] (by decide) h)

def hawthornlaw12_awake  : Option Bool :=
  (store_New (⟨1, 2, 100, 0⟩ : api_Config)).bind fun r0 => om r0.1 (none) fun x5 => (store_Store_Apply x5 (⟨1, 0, 1, 1, (⟨2, [107], [118], 0, 0⟩ : api_Op)⟩ : api_Record)).bind fun r16 => (store_Store_Apply r16.2.2 (⟨2, 0, 1, 2, (⟨1, [107], [], 0, 0⟩ : api_Op)⟩ : api_Record)).bind fun r27 => if (((((r0.2 == 0) && (r16.2.1 == 0)) && (r27.2.1 == 0)) && (r16.1.Version == 1)) && (r27.1.Value == [118])) then if ((store_Store_Seq r27.2.2) == 2) then (store_Store_Entries r27.2.2).bind fun r42 => some ((r42.length : Int) == 1) else some false else some false
theorem hawthornlaw12_awake.ok {G R F} (r : Bool) (hm : hawthornlaw12_awake = some r) : CO Tryz.prog 12 [] G R (F)
    (Ret fun u R' L' => u = vB r ∧ R' = R ∧ L' = F) := by
  unfold hawthornlaw12_awake at hm
  refine co_ofN (N := 57) Tryz.func12 rfl rfl ?_
  refine c_seq ?_
  refine c_reg ?_
  refine r_u (o_as rfl) ?_
  refine r_nil ?_
  refine x_seq ?_
  refine c_seq ?_
  refine c_reg ?_
  refine r_u (o_bld [vI 1, vI 2, vI 100, vW 0] rfl (fun _ => by kernel_rfl)) ?_
  obtain ⟨r0, hr0, hm4⟩ := bs hm
  clear hm
  refine r_sw (s_w (o_call ca19 rfl (store_New.ok (⟨1, 2, 100, 0⟩ : api_Config) r0 hr0))) ?_
  rintro _ R _ _ ⟨⟨pv2, g3⟩, rfl, rfl, rfl⟩
  refine r_u (o_mv rfl) ?_
  refine r_u (o_ext rfl rfl) ?_
  refine r_u (o_ext rfl rfl) ?_
  refine r_u (o_as rfl) ?_
  refine r_u (o_as rfl) ?_
  refine r_nil ?_
  refine x_seq ?_
  refine c_seq ?_
  refine cd_opt (fun ho7 => ?_) (fun x5 b6 ho7 => ?_)
  · rintro rfl
    have hm8 := om_n hm4 ho7
    clear hm4
    cases hm8
  · rintro rfl
    have hm8 := om_s hm4 ho7
    clear hm4
    obtain ⟨⟨pv10, g11⟩, ⟨pv13, g14⟩, g15⟩ := g3
    refine cd_st (fun _ h => st_star_o h) ?_
    refine c_reg ?_
    refine r_u (o_mv rfl) ?_
    refine r_u (o_bld [vI 2, vS [107], vS [118], vW 0, vW 0] rfl (fun _ => by kernel_rfl)) ?_
    refine r_u (o_bld [vW 1, vW 0, vW 1, vW 1, vI 2, vS [107], vS [118], vW 0, vW 0] rfl (fun _ => by kernel_rfl)) ?_
    obtain ⟨r16, hr16, hm25⟩ := bs hm8
    clear hm8
    refine r_sw (s_w (o_call ca15 rfl (store_Store_Apply.ok b6 x5 (⟨(pv10, g11), (pv13, g14), g15⟩ : store_Store.G) (⟨1, 0, 1, 1, (⟨2, [107], [118], 0, 0⟩ : api_Op)⟩ : api_Record) r16 hr16))) ?_
    rintro _ R _ _ ⟨⟨⟨pv19, g20⟩, ⟨pv22, g23⟩, g24⟩, rfl, rfl, rfl⟩
    refine r_u (o_mv rfl) ?_
    refine r_u (o_ext rfl rfl) ?_
    refine r_u (o_ext rfl rfl) ?_
    refine r_new (o_al ze41) fun b26 => ?_
    refine r_u0 (o_stn ag41 rfl rfl rfl rfl rfl rfl rfl) ?_
    refine r_u (o_as rfl) ?_
    refine r_nil ?_
    refine x_seq ?_
    refine c_seq ?_
    refine c_reg ?_
    refine r_u (o_mv rfl) ?_
    refine r_u (o_bld [vI 1, vS [107], vS [], vW 0, vW 0] rfl (fun _ => by kernel_rfl)) ?_
    refine r_u (o_bld [vW 2, vW 0, vW 1, vW 2, vI 1, vS [107], vS [], vW 0, vW 0] rfl (fun _ => by kernel_rfl)) ?_
    obtain ⟨r27, hr27, hm36⟩ := bs hm25
    clear hm25
    refine rl_st (fun _ h => mv4 (mv4 (mv4 (mv4 h)))) ?_
    refine r_sw (s_w (o_call ca15 rfl (store_Store_Apply.ok b6 r16.2.2 (⟨(pv19, g20), (pv22, g23), g24⟩ : store_Store.G) (⟨2, 0, 1, 2, (⟨1, [107], [], 0, 0⟩ : api_Op)⟩ : api_Record) r27 hr27))) ?_
    rintro _ R _ _ ⟨⟨⟨pv30, g31⟩, ⟨pv33, g34⟩, g35⟩, rfl, rfl, rfl⟩
    refine r_u (o_mv rfl) ?_
    refine r_u (o_ext rfl rfl) ?_
    refine r_u (o_ext rfl rfl) ?_
    refine r_new (o_al ze41) fun b37 => ?_
    refine r_u0 (o_stn ag41 rfl rfl rfl rfl rfl rfl rfl) ?_
    refine r_u (o_as rfl) ?_
    refine r_nil ?_
    refine x_seq ?_
    refine c_seq ?_
    refine cd_by (((((r0.2 == 0) && (r16.2.1 == 0)) && (r27.2.1 == 0)) && (r16.1.Version == 1)) && (r27.1.Value == [118])) (fun h38 => ?_) fun h38 => ?_
    · have hm39 := ift hm36 h38
      clear hm36
      refine cd_by ((store_Store_Seq r27.2.2) == 2) (fun h40 => ?_) fun h40 => ?_
      · have hm41 := ift hm39 h40
        clear hm39
        refine c_reg ?_
        refine r_u (o_mv rfl) ?_
        refine r_u (o_bin rfl rfl (bI_eq r0.2 0)) ?_
        refine r_u (o_mv rfl) ?_
        refine r_s (s_gt rfl rfl fun g => o_mv rfl) ?_
        refine r_s (s_gt rfl rfl fun g => o_bin (evg rfl g) rfl (bI_eq r16.2.1 0)) ?_
        refine r_u (o_and rfl rfl) ?_
        refine r_u (o_mv rfl) ?_
        refine r_s (s_gt rfl rfl fun g => o_mv rfl) ?_
        refine r_s (s_gt rfl rfl fun g => o_bin (evg rfl g) rfl (bI_eq r27.2.1 0)) ?_
        refine r_u (o_and rfl rfl) ?_
        refine r_u (o_mv rfl) ?_
        refine r_s (s_gt rfl rfl fun g => o_fa fa41_2 rfl) ?_
        refine r_s (s_gt rfl rfl fun g => o_ld 5 sc22 (evg rfl g) rfl rfl) ?_
        refine r_s (s_gt rfl rfl fun g => o_bin (evg rfl g) rfl (bW_eq r16.1.Version 1)) ?_
        refine r_u (o_and rfl rfl) ?_
        refine r_u (o_mv rfl) ?_
        refine r_s (s_gt rfl rfl fun g => o_fa fa41_1 rfl) ?_
        refine r_s (s_gt rfl rfl fun g => o_ld 0 sc9 (evg rfl g) rfl rfl) ?_
        refine r_s (s_gt rfl rfl fun g => o_bin (evg rfl g) rfl (bS_eq r27.1.Value [118])) ?_
        refine r_u (o_and rfl rfl) ?_
        refine r_u (o_mv rfl) ?_
        refine r_s (s_y rfl rfl h38 (o_mv rfl)) ?_
        refine rl_st (fun _ h => mv4 (mv4 (mv4 (mv4 h)))) ?_
        refine r_c (s_yw rfl rfl h38 (o_call ca14 rfl (store_Store_Seq.ok b6 r27.2.2 (⟨(pv30, g31), (pv33, g34), g35⟩ : store_Store.G) _ rfl))) ?_
        refine r_s (s_y rfl rfl h38 (o_bin rfl rfl (bW_eq (store_Store_Seq r27.2.2) 2))) ?_
        refine r_u (o_pt rfl h38 rfl) ?_
        refine r_u (o_mv rfl) ?_
        refine r_s (s_y rfl rfl h40 (o_mv rfl)) ?_
        obtain ⟨r42, hr42, hm44⟩ := bs hm41
        clear hm41
        refine r_sw (s_yw rfl rfl h40 (o_call ca16 rfl (store_Store_Entries.ok b6 r27.2.2 (⟨(pv30, g31), (pv33, g34), g35⟩ : store_Store.G) r42 hr42))) ?_
        rintro v43 R _ _ ⟨_, rfl, rfl, rfl⟩
        refine r_s (s_y rfl rfl h40 (o_lenO 0 Tryz.underlying44 rfl rfl)) ?_
        refine r_s (s_y rfl rfl h40 (o_bin rfl rfl (bI_eq (r42.length : Int) 1))) ?_
        refine r_u (o_pt rfl h40 rfl) ?_
        refine r_u (o_as rfl) ?_
        refine r_nil ?_
        refine x_seq ?_
        refine c_ret ?_
        obtain rfl := Option.some.inj hm44
        refine ex_st (fun _ h => st_pk 7 [] (by decide) h) ?_
        exact x_r1 rfl (rv_t rfl) (Le.refl _) ⟨_, rfl, rfl, rfl, rfl⟩
      · have hm41 := iff_ hm39 h40
        clear hm39
        refine c_reg ?_
        refine r_u (o_mv rfl) ?_
        refine r_u (o_bin rfl rfl (bI_eq r0.2 0)) ?_
        refine r_u (o_mv rfl) ?_
        refine r_s (s_gt rfl rfl fun g => o_mv rfl) ?_
        refine r_s (s_gt rfl rfl fun g => o_bin (evg rfl g) rfl (bI_eq r16.2.1 0)) ?_
        refine r_u (o_and rfl rfl) ?_
        refine r_u (o_mv rfl) ?_
        refine r_s (s_gt rfl rfl fun g => o_mv rfl) ?_
        refine r_s (s_gt rfl rfl fun g => o_bin (evg rfl g) rfl (bI_eq r27.2.1 0)) ?_
        refine r_u (o_and rfl rfl) ?_
        refine r_u (o_mv rfl) ?_
        refine r_s (s_gt rfl rfl fun g => o_fa fa41_2 rfl) ?_
        refine r_s (s_gt rfl rfl fun g => o_ld 5 sc22 (evg rfl g) rfl rfl) ?_
        refine r_s (s_gt rfl rfl fun g => o_bin (evg rfl g) rfl (bW_eq r16.1.Version 1)) ?_
        refine r_u (o_and rfl rfl) ?_
        refine r_u (o_mv rfl) ?_
        refine r_s (s_gt rfl rfl fun g => o_fa fa41_1 rfl) ?_
        refine r_s (s_gt rfl rfl fun g => o_ld 0 sc9 (evg rfl g) rfl rfl) ?_
        refine r_s (s_gt rfl rfl fun g => o_bin (evg rfl g) rfl (bS_eq r27.1.Value [118])) ?_
        refine r_u (o_and rfl rfl) ?_
        refine r_u (o_mv rfl) ?_
        refine r_s (s_y rfl rfl h38 (o_mv rfl)) ?_
        refine rl_st (fun _ h => mv4 (mv4 (mv4 (mv4 h)))) ?_
        refine r_c (s_yw rfl rfl h38 (o_call ca14 rfl (store_Store_Seq.ok b6 r27.2.2 (⟨(pv30, g31), (pv33, g34), g35⟩ : store_Store.G) _ rfl))) ?_
        refine r_s (s_y rfl rfl h38 (o_bin rfl rfl (bW_eq (store_Store_Seq r27.2.2) 2))) ?_
        refine r_u (o_pt rfl h38 rfl) ?_
        refine r_u (o_mv rfl) ?_
        refine r_s (s_n rfl rfl h40) ?_
        refine r_s (s_n rfl rfl h40) ?_
        refine r_s (s_n rfl rfl h40) ?_
        refine r_s (s_n rfl rfl h40) ?_
        refine r_u (o_pf rfl h40 rfl) ?_
        refine r_u (o_as rfl) ?_
        refine r_nil ?_
        refine x_seq ?_
        refine c_ret ?_
        obtain rfl := Option.some.inj hm41
        refine ex_st (fun _ h => st_pk 6 [] (by decide) h) ?_
        exact x_r1 rfl (rv_t rfl) (Le.refl _) ⟨_, rfl, rfl, rfl, rfl⟩
    · have hm39 := iff_ hm36 h38
      clear hm36
      refine c_reg ?_
      refine r_u (o_mv rfl) ?_
      refine r_u (o_bin rfl rfl (bI_eq r0.2 0)) ?_
      refine r_u (o_mv rfl) ?_
      refine r_s (s_gt rfl rfl fun g => o_mv rfl) ?_
      refine r_s (s_gt rfl rfl fun g => o_bin (evg rfl g) rfl (bI_eq r16.2.1 0)) ?_
      refine r_u (o_and rfl rfl) ?_
      refine r_u (o_mv rfl) ?_
      refine r_s (s_gt rfl rfl fun g => o_mv rfl) ?_
      refine r_s (s_gt rfl rfl fun g => o_bin (evg rfl g) rfl (bI_eq r27.2.1 0)) ?_
      refine r_u (o_and rfl rfl) ?_
      refine r_u (o_mv rfl) ?_
      refine r_s (s_gt rfl rfl fun g => o_fa fa41_2 rfl) ?_
      refine r_s (s_gt rfl rfl fun g => o_ld 5 sc22 (evg rfl g) rfl rfl) ?_
      refine r_s (s_gt rfl rfl fun g => o_bin (evg rfl g) rfl (bW_eq r16.1.Version 1)) ?_
      refine r_u (o_and rfl rfl) ?_
      refine r_u (o_mv rfl) ?_
      refine r_s (s_gt rfl rfl fun g => o_fa fa41_1 rfl) ?_
      refine r_s (s_gt rfl rfl fun g => o_ld 0 sc9 (evg rfl g) rfl rfl) ?_
      refine r_s (s_gt rfl rfl fun g => o_bin (evg rfl g) rfl (bS_eq r27.1.Value [118])) ?_
      refine r_u (o_and rfl rfl) ?_
      refine r_u (o_mv rfl) ?_
      refine r_s (s_n rfl rfl h38) ?_
      refine r_s (s_n rfl rfl h38) ?_
      refine r_s (s_n rfl rfl h38) ?_
      refine r_u (o_pf rfl h38 rfl) ?_
      refine r_u (o_mv rfl) ?_
      refine r_s (s_n rfl rfl rfl) ?_
      refine r_s (s_n rfl rfl rfl) ?_
      refine r_s (s_n rfl rfl rfl) ?_
      refine r_s (s_n rfl rfl rfl) ?_
      refine r_u (o_pf rfl rfl rfl) ?_
      refine r_u (o_as rfl) ?_
      refine r_nil ?_
      refine x_seq ?_
      refine c_ret ?_
      obtain rfl := Option.some.inj hm39
      refine ex_st (fun _ h => st_pk 6 [] (by decide) h) ?_
      exact x_r1 rfl (rv_t rfl) (Le.refl _) ⟨_, rfl, rfl, rfl, rfl⟩

def store_Store_Seq_n  : UInt64 :=
  0
theorem store_Store_Seq_n.ok {G R F} (r : UInt64) (hm : store_Store_Seq_n = r) : CO Tryz.prog 14 [nl] G R (F)
    (Ret fun u R' L' => u = vW r ∧ R' = R ∧ L' = F) := by
  unfold store_Store_Seq_n at hm
  refine co_ofN (N := 9) Tryz.func14 rfl rfl ?_
  refine c_seq ?_
  refine c_reg ?_
  refine r_u (o_as rfl) ?_
  refine r_nil ?_
  refine x_seq ?_
  refine c_seq ?_
  refine c_seq ?_
  refine c_reg ?_
  refine r_u (o_mv rfl) ?_
  refine r_u (o_bin rfl rfl (bP_eqn Tryz.underlying30)) ?_
  refine r_nil ?_
  refine x_seq ?_
  refine c_tt rfl ?_
  refine c_seq ?_
  refine c_reg ?_
  refine r_u (o_as rfl) ?_
  refine r_nil ?_
  refine x_seq ?_
  refine c_ret ?_
  subst hm
  exact x_r1 rfl (rv_t rfl) (Le.refl _) ⟨_, rfl, rfl, rfl, rfl⟩

def store_Store_Now_n  : UInt64 :=
  0
theorem store_Store_Now_n.ok {G R F} (r : UInt64) (hm : store_Store_Now_n = r) : CO Tryz.prog 20 [nl] G R (F)
    (Ret fun u R' L' => u = vW r ∧ R' = R ∧ L' = F) := by
  unfold store_Store_Now_n at hm
  refine co_ofN (N := 9) Tryz.func20 rfl rfl ?_
  refine c_seq ?_
  refine c_reg ?_
  refine r_u (o_as rfl) ?_
  refine r_nil ?_
  refine x_seq ?_
  refine c_seq ?_
  refine c_seq ?_
  refine c_reg ?_
  refine r_u (o_mv rfl) ?_
  refine r_u (o_bin rfl rfl (bP_eqn Tryz.underlying30)) ?_
  refine r_nil ?_
  refine x_seq ?_
  refine c_tt rfl ?_
  refine c_seq ?_
  refine c_reg ?_
  refine r_u (o_as rfl) ?_
  refine r_nil ?_
  refine x_seq ?_
  refine c_ret ?_
  subst hm
  exact x_r1 rfl (rv_t rfl) (Le.refl _) ⟨_, rfl, rfl, rfl, rfl⟩

def store_Store_Tally_n  : api_Tally :=
  (⟨0, 0⟩ : api_Tally)
theorem store_Store_Tally_n.ok {G R F} (r : api_Tally) (hm : store_Store_Tally_n = r) : CO Tryz.prog 17 [nl] G R (F)
    (Ret fun u R' L' => u = .agg (api_Tally.c r).toArray ∧ R' = R ∧ L' = F) := by
  unfold store_Store_Tally_n at hm
  refine co_ofN (N := 10) Tryz.func17 rfl rfl ?_
  refine c_seq ?_
  refine c_reg ?_
  refine r_new (o_al ze47) fun b0 => ?_
  refine r_nil ?_
  refine x_seq ?_
  refine c_seq ?_
  refine c_seq ?_
  refine c_reg ?_
  refine r_u (o_mv rfl) ?_
  refine r_u (o_bin rfl rfl (bP_eqn Tryz.underlying30)) ?_
  refine r_nil ?_
  refine x_seq ?_
  refine c_tt rfl ?_
  refine c_seq ?_
  refine c_reg ?_
  refine r_u (o_bld [vI 0, vI 0] rfl (fun _ => by kernel_rfl)) ?_
  refine r_u0 (o_stn ag47 rfl rfl rfl rfl rfl rfl rfl) ?_
  refine r_nil ?_
  refine x_seq ?_
  refine c_ret ?_
  subst hm
  exact x_d1 rfl (rv_n 0 [vI 0, vI 0] ag47 rfl rfl rfl rfl) (fun _ h => st_pk 1 [] (by decide) h) (Le.refl _) ⟨_, rfl, rfl, rfl, rfl⟩

def store_Store_Entries_n  : List api_Entry :=
  []
theorem store_Store_Entries_n.ok {G R F} (r : List api_Entry) (hm : store_Store_Entries_n = r) : CO Tryz.prog 16 [nl] G R (F)
    (Ret fun u R' L' => ∃ p0, u = p0 ∧ R' = R ∧ L' = OwS true 50 4 api_Entry.c p0 r :: F) := by
  unfold store_Store_Entries_n at hm
  refine co_ofN (N := 35) Tryz.func16 rfl rfl ?_
  refine c_seq ?_
  refine c_reg ?_
  refine r_u (o_as rfl) ?_
  refine r_nil ?_
  refine x_seq ?_
  refine c_seq ?_
  refine c_seq ?_
  refine c_reg ?_
  refine r_u (o_mv rfl) ?_
  refine r_u (o_bin rfl rfl (bP_eqn Tryz.underlying30)) ?_
  refine r_nil ?_
  refine x_seq ?_
  refine c_tt rfl ?_
  refine c_seq ?_
  refine c_reg ?_
  refine r_u (o_as rfl) ?_
  refine r_nil ?_
  refine x_seq ?_
  refine c_ret ?_
  refine ex_st (fun _ h => st_nil (ap := true) (T := 50) (sz := 4) (en := api_Entry.c) h) ?_
  subst hm
  exact x_r1 rfl (rv_t rfl) (Le.refl _) ⟨_, rfl, (.slice none 0 0), rfl, rfl, rfl⟩

def store_Store_Export_n  : Str :=
  []
theorem store_Store_Export_n.ok {G R F} (r : Str) (hm : store_Store_Export_n = r) : CO Tryz.prog 25 [nl] G R (F)
    (Ret fun u R' L' => u = vS r ∧ R' = R ∧ L' = F) := by
  unfold store_Store_Export_n at hm
  refine co_ofN (N := 126) Tryz.func25 rfl rfl ?_
  refine c_seq ?_
  refine c_reg ?_
  refine r_u (o_as rfl) ?_
  refine r_nil ?_
  refine x_seq ?_
  refine c_seq ?_
  refine c_seq ?_
  refine c_reg ?_
  refine r_u (o_mv rfl) ?_
  refine r_u (o_bin rfl rfl (bP_eqn Tryz.underlying30)) ?_
  refine r_nil ?_
  refine x_seq ?_
  refine c_tt rfl ?_
  refine c_seq ?_
  refine c_reg ?_
  refine r_u (o_as rfl) ?_
  refine r_nil ?_
  refine x_seq ?_
  refine c_ret ?_
  subst hm
  exact x_r1 rfl (rv_t rfl) (Le.refl _) ⟨_, rfl, rfl, rfl, rfl⟩

def store_Store_Copy_n  : Option store_Store :=
  none
theorem store_Store_Copy_n.ok {G R F} (r : Option store_Store) (hm : store_Store_Copy_n = r) : CO Tryz.prog 28 [nl] G R (F)
    (Ret fun u R' L' => ∃ (p0 : Value × store_Store.G), u = p0.1 ∧ R' = R ∧ L' = rO (store_Store.op p0.2) p0.1 r :: F) := by
  unfold store_Store_Copy_n at hm
  refine co_ofN (N := 14) Tryz.func28 rfl rfl ?_
  refine c_seq ?_
  refine c_reg ?_
  refine r_u (o_as rfl) ?_
  refine r_nil ?_
  refine x_seq ?_
  refine c_seq ?_
  refine c_seq ?_
  refine c_reg ?_
  refine r_u (o_mv rfl) ?_
  refine r_u (o_bin rfl rfl (bP_eqn Tryz.underlying30)) ?_
  refine r_nil ?_
  refine x_seq ?_
  refine c_tt rfl ?_
  refine c_seq ?_
  refine c_reg ?_
  refine r_u (o_as rfl) ?_
  refine r_nil ?_
  refine x_seq ?_
  refine c_ret ?_
  refine ex_st (fun _ h => st_none (f := store_Store.op default) h) ?_
  subst hm
  exact x_r1 rfl (rv_t rfl) (Le.refl _) ⟨_, rfl, (nl, default), rfl, rfl, rfl⟩
theorem store_Store_Copy_n.nil {G R F} : CO Tryz.prog 28 [nl] G R F (Ret fun u R' L' => u = nl ∧ R' = R ∧ L' = F) := co_nil (op := store_Store.op) (store_Store_Copy_n.ok none rfl)

def store_Store_Config_n  : api_Config :=
  (⟨0, 0, 0, 0⟩ : api_Config)
theorem store_Store_Config_n.ok {G R F} (r : api_Config) (hm : store_Store_Config_n = r) : CO Tryz.prog 27 [nl] G R (F)
    (Ret fun u R' L' => u = .agg (api_Config.c r).toArray ∧ R' = R ∧ L' = F) := by
  unfold store_Store_Config_n at hm
  refine co_ofN (N := 10) Tryz.func27 rfl rfl ?_
  refine c_seq ?_
  refine c_reg ?_
  refine r_new (o_al ze24) fun b0 => ?_
  refine r_nil ?_
  refine x_seq ?_
  refine c_seq ?_
  refine c_seq ?_
  refine c_reg ?_
  refine r_u (o_mv rfl) ?_
  refine r_u (o_bin rfl rfl (bP_eqn Tryz.underlying30)) ?_
  refine r_nil ?_
  refine x_seq ?_
  refine c_tt rfl ?_
  refine c_seq ?_
  refine c_reg ?_
  refine r_u (o_bld [vI 0, vI 0, vI 0, vW 0] rfl (fun _ => by kernel_rfl)) ?_
  refine r_u0 (o_stn ag24 rfl rfl rfl rfl rfl rfl rfl) ?_
  refine r_nil ?_
  refine x_seq ?_
  refine c_ret ?_
  subst hm
  exact x_d1 rfl (rv_n 0 [vI 0, vI 0, vI 0, vW 0] ag24 rfl rfl rfl rfl) (fun _ h => st_pk 1 [] (by decide) h) (Le.refl _) ⟨_, rfl, rfl, rfl, rfl⟩

def hawthornref12_Check (a0 : api_Config) : Bool :=
  ((((((a0.Policy == 1) || (a0.Policy == 2)) && decide (0 < a0.Entries)) && decide (a0.Entries ≤ 1000)) && decide (0 < a0.Bytes)) && decide (a0.Bytes ≤ 1048576))
theorem hawthornref12_Check.ok {G R F} (a0 : api_Config) (r : Bool) (hm : hawthornref12_Check a0 = r) : CO Tryz.prog 30 [.agg (api_Config.c a0).toArray] G R (F)
    (Ret fun u R' L' => u = vB r ∧ R' = R ∧ L' = F) := by
  unfold hawthornref12_Check at hm
  refine co_ofN (N := 31) Tryz.func30 rfl rfl ?_
  refine c_seq ?_
  refine c_reg ?_
  refine r_new (o_bx (api_Config.c a0) rfl rfl) fun b0 => ?_
  refine r_u (o_as rfl) ?_
  refine r_nil ?_
  refine x_seq ?_
  refine c_seq ?_
  refine c_reg ?_
  refine r_u (o_fa fa24_0 rfl) ?_
  refine r_u (o_ld 0 sc3 rfl rfl rfl) ?_
  refine r_u (o_bin rfl rfl (bI_eq a0.Policy 1)) ?_
  refine r_u (o_mv rfl) ?_
  refine r_s (s_gf rfl rfl fun g => o_fa fa24_0 rfl) ?_
  refine r_s (s_gf rfl rfl fun g => o_ld 0 sc3 (evg rfl g) rfl rfl) ?_
  refine r_s (s_gf rfl rfl fun g => o_bin (evg rfl g) rfl (bI_eq a0.Policy 2)) ?_
  refine r_u (o_or rfl rfl) ?_
  refine r_u (o_mv rfl) ?_
  refine r_s (s_gt rfl rfl fun g => o_fa fa24_1 rfl) ?_
  refine r_s (s_gt rfl rfl fun g => o_ld 0 sc3 (evg rfl g) rfl rfl) ?_
  refine r_s (s_gt rfl rfl fun g => o_bin (evg rfl g) rfl (bI_gt a0.Entries 0)) ?_
  refine r_u (o_and rfl rfl) ?_
  refine r_u (o_mv rfl) ?_
  refine r_s (s_gt rfl rfl fun g => o_fa fa24_1 rfl) ?_
  refine r_s (s_gt rfl rfl fun g => o_ld 0 sc3 (evg rfl g) rfl rfl) ?_
  refine r_s (s_gt rfl rfl fun g => o_bin (evg rfl g) rfl (bI_le a0.Entries 1000)) ?_
  refine r_u (o_and rfl rfl) ?_
  refine r_u (o_mv rfl) ?_
  refine r_s (s_gt rfl rfl fun g => o_fa fa24_2 rfl) ?_
  refine r_s (s_gt rfl rfl fun g => o_ld 0 sc3 (evg rfl g) rfl rfl) ?_
  refine r_s (s_gt rfl rfl fun g => o_bin (evg rfl g) rfl (bI_gt a0.Bytes 0)) ?_
  refine r_u (o_and rfl rfl) ?_
  refine r_u (o_mv rfl) ?_
  refine r_s (s_gt rfl rfl fun g => o_fa fa24_2 rfl) ?_
  refine r_s (s_gt rfl rfl fun g => o_ld 0 sc3 (evg rfl g) rfl rfl) ?_
  refine r_s (s_gt rfl rfl fun g => o_bin (evg rfl g) rfl (bI_le a0.Bytes 1048576)) ?_
  refine r_u (o_and rfl rfl) ?_
  refine r_u (o_as rfl) ?_
  refine r_nil ?_
  refine x_seq ?_
  refine c_ret ?_
  subst hm
  refine ex_st (fun _ h => st_pk 1 [] (by decide) h) ?_
  exact x_r1 rfl (rv_t rfl) (Le.refl _) ⟨_, rfl, rfl, rfl, rfl⟩

end Go.Proofs.YtpanhdnglicknaaGreat
