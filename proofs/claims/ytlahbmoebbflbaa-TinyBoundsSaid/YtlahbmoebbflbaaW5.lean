import Derived.Test.YtlahbmoebbflbaaW4
import Derived.Test.YtlahbmoebbflbaaFacts
import Derived.Test.YtlahbmoebbflbaaHwX
set_option linter.unusedVariables false
set_option linter.unusedSectionVars false
set_option linter.unusedSimpArgs false
set_option maxRecDepth 100000
set_option maxHeartbeats 8000000
namespace Go.Proofs.Ytlahbmoebbflbaa
open Go Go.Proofs.Ytlahbmoebbflbaa.Hw
def hawthornlaw08_TinyNone (a0 : Int) (a1 : Str) : Option Bool :=
  (hawthornlaw08_few a1).bind fun r0 => (tiny_Tiny_Evict_n).bind fun r2 => (tiny_New (iand a0 2047) 1).bind fun r4 => (tiny_New 3 1).bind fun r9 => (mks 1 65 (0 : UInt8)).bind fun l15 => Option.bind (om r9.1 (lt (tiny_Tiny_Insert_n l15) fun r170 => some (none, r170)) fun x150 => (tiny_Tiny_Insert x150 l15).bind fun r160 => some ((some r160.2), r160.1)) fun p17 => Option.bind (om p17.1 (some none) fun x138 => (tiny_Tiny_Miss x138 l15).bind fun r148 => some (some r148)) fun p25 => lt (tiny_Tiny_Lists_n) fun r32 => (hawthornlaw08_awake).bind fun r36 => if (r36 && !r2.2) then if (!(tiny_Tiny_Has_n r0) && (tiny_Tiny_Len_n == 0)) then (tiny_Tiny_Touch_n r0).bind fun r42 => if r42 then some false else lt (tiny_Tiny_Insert_n r0) fun r46 => if ((r46.length : Int) == 0) then if tiny_Tiny_Remove_n r0 then some false else if ((tiny_Tiny_Seen_n r0) == 0) then (gi r32 0).bind fun y59 => om r4.1 (om p25 (some (((((((((y59.length : Int) == 0) && (tiny_Tiny_Export_n == [])) && ((r4.2 == 0) == (decide (1 ≤ (iand a0 2047)) && decide ((iand a0 2047) ≤ 1000)))) && (false == (r4.2 == 0))) && (r9.2 == 0)) && ((p17.2.length : Int) == 0)) && (tiny_Tiny_Len_n == 0)) && ((tiny_Tiny_Seen_n l15) == 0))) fun x106 => if (((((((y59.length : Int) == 0) && (tiny_Tiny_Export_n == [])) && ((r4.2 == 0) == (decide (1 ≤ (iand a0 2047)) && decide ((iand a0 2047) ≤ 1000)))) && (false == (r4.2 == 0))) && (r9.2 == 0)) && ((p17.2.length : Int) == 0)) then (tiny_Tiny_Len x106).bind fun r122 => if (r122 == 0) then (tiny_Tiny_Seen x106 l15).bind fun r128 => some (r128 == 0) else some false else some false) fun x62 => om p25 (some (((((((((y59.length : Int) == 0) && (tiny_Tiny_Export_n == [])) && ((r4.2 == 0) == (decide (1 ≤ (iand a0 2047)) && decide ((iand a0 2047) ≤ 1000)))) && (true == (r4.2 == 0))) && (r9.2 == 0)) && ((p17.2.length : Int) == 0)) && (tiny_Tiny_Len_n == 0)) && ((tiny_Tiny_Seen_n l15) == 0))) fun x74 => if (((((((y59.length : Int) == 0) && (tiny_Tiny_Export_n == [])) && ((r4.2 == 0) == (decide (1 ≤ (iand a0 2047)) && decide ((iand a0 2047) ≤ 1000)))) && (true == (r4.2 == 0))) && (r9.2 == 0)) && ((p17.2.length : Int) == 0)) then (tiny_Tiny_Len x74).bind fun r90 => if (r90 == 0) then (tiny_Tiny_Seen x74 l15).bind fun r96 => some (r96 == 0) else some false else some false else some false else some false else some false else some false
theorem hawthornlaw08_TinyNone.ok {G R F} (a0 : Int) (a1 : Str) (r : Bool) (hm : hawthornlaw08_TinyNone a0 a1 = some r) : CO Try.prog 11 [vI a0, vS a1] G R (F)
    (Ret fun u R' L' => u = vB r ∧ R' = R ∧ L' = F) := by
  unfold hawthornlaw08_TinyNone at hm
  refine co_ofN (N := 141) Try.func11 rfl rfl ?_
  refine c_seq ?_
  refine c_reg ?_
  refine r_u (o_as rfl) ?_
  refine r_nil ?_
  refine x_seq ?_
  refine c_seq ?_
  refine c_reg ?_
  refine r_u (o_as rfl) ?_
  refine r_nil ?_
  refine x_seq ?_
  refine c_seq ?_
  refine c_reg ?_
  refine r_u (o_mv rfl) ?_
  refine r_u (o_mv rfl) ?_
  obtain ⟨r0, hr0, hm1⟩ := bs hm
  clear hm
  refine r_u (o_callq ca29 rfl (hawthornlaw08_few.ok a1 r0 hr0)) ?_
  refine r_u (o_callq ca33 rfl (tiny_Tiny_Miss_n.ok r0)) ?_
  refine r_nil ?_
  refine x_seq ?_
  refine c_seq ?_
  refine c_reg ?_
  refine r_u (o_mv rfl) ?_
  obtain ⟨r2, hr2, hm3⟩ := bs hm1
  clear hm1
  refine r_u (o_callq ca39 rfl (tiny_Tiny_Evict_n.ok r2 hr2)) ?_
  refine r_u (o_mv rfl) ?_
  refine r_u (o_ext rfl rfl) ?_
  refine r_u (o_ext rfl rfl) ?_
  refine r_u (o_as rfl) ?_
  refine r_u (o_as rfl) ?_
  refine r_nil ?_
  refine x_seq ?_
  refine c_seq ?_
  refine c_reg ?_
  refine r_u (o_mv rfl) ?_
  refine r_u (o_bin rfl rfl (bI_and a0 2047)) ?_
  refine r_u (o_as rfl) ?_
  refine r_nil ?_
  refine x_seq ?_
  refine c_seq ?_
  refine c_reg ?_
  refine r_u (o_mv rfl) ?_
  obtain ⟨r4, hr4, hm8⟩ := bs hm3
  clear hm3
  refine r_sw (s_w (o_call ca27 rfl (tiny_New.ok (iand a0 2047) 1 r4 hr4))) ?_
  rintro _ R _ _ ⟨⟨pv6, g7⟩, rfl, rfl, rfl⟩
  refine r_u (o_mv rfl) ?_
  refine r_u (o_ext rfl rfl) ?_
  refine r_u (o_ext rfl rfl) ?_
  refine r_u (o_as rfl) ?_
  refine r_u (o_as rfl) ?_
  refine r_nil ?_
  refine x_seq ?_
  refine c_seq ?_
  refine c_reg ?_
  obtain ⟨r9, hr9, hm13⟩ := bs hm8
  clear hm8
  refine r_sw (s_w (o_call ca27 rfl (tiny_New.ok 3 1 r9 hr9))) ?_
  rintro _ R _ _ ⟨⟨pv11, g12⟩, rfl, rfl, rfl⟩
  refine r_u (o_mv rfl) ?_
  refine r_u (o_ext rfl rfl) ?_
  refine r_u (o_ext rfl rfl) ?_
  refine r_u (o_as rfl) ?_
  refine r_u (o_as rfl) ?_
  refine r_nil ?_
  refine x_seq ?_
  refine c_seq ?_
  refine c_reg ?_
  obtain ⟨l15, hl15, hm16⟩ := bs hm13
  clear hm13
  refine r_sw (s_w (o_mk (sz := 1) (bytes := 1) (e := 5) (en := eY) Try.underlying67 rfl rfl rfl rfl rfl rfl rfl rfl rfl hl15)) ?_
  rintro v14 R _ _ ⟨rfl, rfl⟩
  refine r_u (o_bs 0 Try.underlying67 Try.underlying5 Try.underlying9 rfl rfl) ?_
  refine r_u (o_as rfl) ?_
  refine r_nil ?_
  refine x_seq ?_
  refine c_seq ?_
  obtain ⟨p17, hp22, hm23⟩ := bs hm16
  refine cd_cut (fun x ks => ∀ (pv18 : Value × tiny_Tiny.G), ∀ (g21 : Value), EX x .normal ks [(1, vS a1), (5, nl), (7, vB r2.2), (8, vI (iand a0 2047)), (9, pv6), (10, vI r4.2), (12, vI r9.2), (13, vS l15), (11, pv18.1), (14, g21)] R (OwS true 5 1 eY v14 l15 :: rO (tiny_Tiny.op g7) pv6 r4.1 :: rO (tiny_Tiny.op pv18.2) pv18.1 p17.1 :: OwS true 9 1 eS g21 p17.2 :: F)) ?_ fun K24 => ?_
  · intro pv18 g21
    obtain ⟨pv19, g20⟩ := pv18
    refine x_seq ?_
    refine c_seq ?_
    obtain ⟨p25, hp29, hm30⟩ := bs hm23
    refine cd_cut (fun x ks => ∀ (pv26 : Value × tiny_Tiny.G), EX x .normal ks [(1, vS a1), (5, nl), (7, vB r2.2), (8, vI (iand a0 2047)), (9, pv6), (10, vI r4.2), (12, vI r9.2), (13, vS l15), (14, g21), (11, pv26.1)] R (OwS true 5 1 eY v14 l15 :: rO (tiny_Tiny.op g7) pv6 r4.1 :: OwS true 9 1 eS g21 p17.2 :: rO (tiny_Tiny.op pv26.2) pv26.1 p25 :: F)) ?_ fun K31 => ?_
    · intro pv26
      obtain ⟨pv27, g28⟩ := pv26
      refine x_seq ?_
      refine c_seq ?_
      refine c_reg ?_
      refine r_u (o_mv rfl) ?_
      obtain ⟨r32, hr32, hm34⟩ := ltx hm30
      clear hm30
      refine r_sw (s_w (o_call ca40 rfl (tiny_Tiny_Lists_n.ok r32 hr32))) ?_
      rintro _ R _ _ ⟨v33, rfl, rfl, rfl⟩
      refine r_new (o_al ze64) fun b35 => ?_
      refine r_u0 (ou_if (one_l 1 0 rfl rfl) fun ho0 => ou_if (one_l 1 1 rfl rfl) fun ho1 => ou_if (one_l 1 2 rfl rfl) fun ho2 => o_stn ag64 rfl rfl rfl (al_c ho0 (al_c ho1 (al_c ho2 al_n))) rfl rfl rfl) ?_
      refine r_nil ?_
      refine x_seq ?_
      refine c_seq ?_
      obtain ⟨r36, hr36, hm37⟩ := bs hm34
      clear hm34
      refine cd_by (r36 && !r2.2) (fun h38 => ?_) fun h38 => ?_
      · have hm39 := ift hm37 h38
        clear hm37
        refine cd_by (!(tiny_Tiny_Has_n r0) && (tiny_Tiny_Len_n == 0)) (fun h40 => ?_) fun h40 => ?_
        · have hm41 := ift hm39 h40
          clear hm39
          obtain ⟨r42, hr42, hm43⟩ := bs hm41
          clear hm41
          refine cd_by r42 (fun h44 => ?_) fun h44 => ?_
          · have hm45 := ift hm43 h44
            clear hm43
            refine c_reg ?_
            refine r_u (o_callq ca28 rfl (hawthornlaw08_awake.ok r36 hr36)) ?_
            refine r_u (o_mv rfl) ?_
            refine r_s (s_gt rfl rfl fun g => o_mv rfl) ?_
            refine r_s (s_gt rfl rfl fun g => o_not (evg rfl g)) ?_
            refine r_u (o_and rfl rfl) ?_
            refine r_u (o_mv rfl) ?_
            refine r_s (s_y rfl rfl h38 (o_mv rfl)) ?_
            refine r_s (s_y rfl rfl h38 (o_mv rfl)) ?_
            refine r_s (s_y rfl rfl h38 (o_callq ca29 rfl (hawthornlaw08_few.ok a1 r0 hr0))) ?_
            refine r_s (s_y rfl rfl h38 (o_callq ca32 rfl (tiny_Tiny_Has_n.ok r0 _ rfl))) ?_
            refine r_s (s_y rfl rfl h38 (o_not rfl)) ?_
            refine r_u (o_pt rfl h38 rfl) ?_
            refine r_u (o_mv rfl) ?_
            refine r_s (s_gt rfl rfl fun g => o_mv rfl) ?_
            refine r_s (s_gt rfl rfl fun g => o_callq ca31 (evs1 (evg rfl g) evs0) (tiny_Tiny_Len_n.ok _ rfl)) ?_
            refine r_s (s_gt rfl rfl fun g => o_bin (evg rfl g) rfl (bI_eq tiny_Tiny_Len_n 0)) ?_
            refine r_u (o_and rfl rfl) ?_
            refine r_u (o_mv rfl) ?_
            refine r_s (s_y rfl rfl h40 (o_mv rfl)) ?_
            refine r_s (s_y rfl rfl h40 (o_mv rfl)) ?_
            refine r_s (s_y rfl rfl h40 (o_callq ca29 rfl (hawthornlaw08_few.ok a1 r0 hr0))) ?_
            refine r_s (s_y rfl rfl h40 (o_callq ca34 rfl (tiny_Tiny_Touch_n.ok r0 r42 hr42))) ?_
            refine r_s (s_y rfl rfl h40 (o_not rfl)) ?_
            refine r_u (o_pt rfl h40 rfl) ?_
            refine r_u (o_mv rfl) ?_
            refine r_s (s_n rfl rfl (nbf h44)) ?_
            refine r_s (s_n rfl rfl (nbf h44)) ?_
            refine r_s (s_n rfl rfl (nbf h44)) ?_
            refine r_s (s_n rfl rfl (nbf h44)) ?_
            refine r_s (s_n rfl rfl (nbf h44)) ?_
            refine r_s (s_n rfl rfl (nbf h44)) ?_
            refine r_u (o_pf rfl (nbf h44) rfl) ?_
            refine r_u (o_mv rfl) ?_
            refine r_s (s_n rfl rfl rfl) ?_
            refine r_s (s_n rfl rfl rfl) ?_
            refine r_s (s_n rfl rfl rfl) ?_
            refine r_s (s_n rfl rfl rfl) ?_
            refine r_s (s_n rfl rfl rfl) ?_
            refine r_u (o_pf rfl rfl rfl) ?_
            refine r_u (o_mv rfl) ?_
            refine r_s (s_n rfl rfl rfl) ?_
            refine r_s (s_n rfl rfl rfl) ?_
            refine r_s (s_n rfl rfl rfl) ?_
            refine r_s (s_n rfl rfl rfl) ?_
            refine r_s (s_n rfl rfl rfl) ?_
            refine r_u (o_pf rfl rfl rfl) ?_
            refine r_u (o_mv rfl) ?_
            refine r_s (s_n rfl rfl rfl) ?_
            refine r_s (s_n rfl rfl rfl) ?_
            refine r_s (s_n rfl rfl rfl) ?_
            refine r_s (s_n rfl rfl rfl) ?_
            refine r_u (o_pf rfl rfl rfl) ?_
            refine r_u (o_mv rfl) ?_
            refine r_s (s_n rfl rfl rfl) ?_
            refine r_s (s_n rfl rfl rfl) ?_
            refine r_s (s_n rfl rfl rfl) ?_
            refine r_u (o_pf rfl rfl rfl) ?_
            refine r_u (o_mv rfl) ?_
            refine r_s (s_n rfl rfl rfl) ?_
            refine r_s (s_n rfl rfl rfl) ?_
            refine r_s (s_n rfl rfl rfl) ?_
            refine r_s (s_n rfl rfl rfl) ?_
            refine r_s (s_n rfl rfl rfl) ?_
            refine r_s (s_nu rfl rfl) ?_
            refine r_s (s_nu rfl rfl) ?_
            refine r_s (s_n rfl rfl rfl) ?_
            refine r_s (s_n rfl rfl rfl) ?_
            refine r_u (o_pf rfl rfl rfl) ?_
            refine r_u (o_mv rfl) ?_
            refine r_s (s_n rfl rfl rfl) ?_
            refine r_s (s_n rfl rfl rfl) ?_
            refine r_s (s_n rfl rfl rfl) ?_
            refine r_s (s_n rfl rfl rfl) ?_
            refine r_s (s_n rfl rfl rfl) ?_
            refine r_u (o_pf rfl rfl rfl) ?_
            refine r_u (o_mv rfl) ?_
            refine r_s (s_n rfl rfl rfl) ?_
            refine r_s (s_n rfl rfl rfl) ?_
            refine r_u (o_pf rfl rfl rfl) ?_
            refine r_u (o_mv rfl) ?_
            refine r_s (s_n rfl rfl rfl) ?_
            refine r_s (s_n rfl rfl rfl) ?_
            refine r_s (s_n rfl rfl rfl) ?_
            refine r_u (o_pf rfl rfl rfl) ?_
            refine r_u (o_mv rfl) ?_
            refine r_s (s_n rfl rfl rfl) ?_
            refine r_s (s_n rfl rfl rfl) ?_
            refine r_s (s_n rfl rfl rfl) ?_
            refine r_u (o_pf rfl rfl rfl) ?_
            refine r_u (o_mv rfl) ?_
            refine r_s (s_n rfl rfl rfl) ?_
            refine r_s (s_n rfl rfl rfl) ?_
            refine r_s (s_n rfl rfl rfl) ?_
            refine r_s (s_n rfl rfl rfl) ?_
            refine r_u (o_pf rfl rfl rfl) ?_
            refine r_u (o_as rfl) ?_
            refine r_nil ?_
            refine x_seq ?_
            refine c_ret ?_
            obtain rfl := Option.some.inj hm45
            refine ex_st (fun _ h => st_pk 6 [] (by decide) h) ?_
            exact x_r1 rfl (rv_t rfl) (Le.refl _) ⟨_, rfl, rfl, rfl, rfl⟩
          · have hm45 := iff_ hm43 h44
            clear hm43
            obtain ⟨r46, hr46, hm48⟩ := ltx hm45
            clear hm45
            refine cd_by ((r46.length : Int) == 0) (fun h49 => ?_) fun h49 => ?_
            · have hm50 := ift hm48 h49
              clear hm48
              refine cd_by (tiny_Tiny_Remove_n r0) (fun h52 => ?_) fun h52 => ?_
              · have hm53 := ift hm50 h52
                clear hm50
                refine c_reg ?_
                refine r_u (o_callq ca28 rfl (hawthornlaw08_awake.ok r36 hr36)) ?_
                refine r_u (o_mv rfl) ?_
                refine r_s (s_gt rfl rfl fun g => o_mv rfl) ?_
                refine r_s (s_gt rfl rfl fun g => o_not (evg rfl g)) ?_
                refine r_u (o_and rfl rfl) ?_
                refine r_u (o_mv rfl) ?_
                refine r_s (s_y rfl rfl h38 (o_mv rfl)) ?_
                refine r_s (s_y rfl rfl h38 (o_mv rfl)) ?_
                refine r_s (s_y rfl rfl h38 (o_callq ca29 rfl (hawthornlaw08_few.ok a1 r0 hr0))) ?_
                refine r_s (s_y rfl rfl h38 (o_callq ca32 rfl (tiny_Tiny_Has_n.ok r0 _ rfl))) ?_
                refine r_s (s_y rfl rfl h38 (o_not rfl)) ?_
                refine r_u (o_pt rfl h38 rfl) ?_
                refine r_u (o_mv rfl) ?_
                refine r_s (s_gt rfl rfl fun g => o_mv rfl) ?_
                refine r_s (s_gt rfl rfl fun g => o_callq ca31 (evs1 (evg rfl g) evs0) (tiny_Tiny_Len_n.ok _ rfl)) ?_
                refine r_s (s_gt rfl rfl fun g => o_bin (evg rfl g) rfl (bI_eq tiny_Tiny_Len_n 0)) ?_
                refine r_u (o_and rfl rfl) ?_
                refine r_u (o_mv rfl) ?_
                refine r_s (s_y rfl rfl h40 (o_mv rfl)) ?_
                refine r_s (s_y rfl rfl h40 (o_mv rfl)) ?_
                refine r_s (s_y rfl rfl h40 (o_callq ca29 rfl (hawthornlaw08_few.ok a1 r0 hr0))) ?_
                refine r_s (s_y rfl rfl h40 (o_callq ca34 rfl (tiny_Tiny_Touch_n.ok r0 r42 hr42))) ?_
                refine r_s (s_y rfl rfl h40 (o_not rfl)) ?_
                refine r_u (o_pt rfl h40 rfl) ?_
                refine r_u (o_mv rfl) ?_
                refine r_s (s_y rfl rfl (nbt h44) (o_mv rfl)) ?_
                refine r_s (s_y rfl rfl (nbt h44) (o_mv rfl)) ?_
                refine r_s (s_y rfl rfl (nbt h44) (o_callq ca29 rfl (hawthornlaw08_few.ok a1 r0 hr0))) ?_
                refine r_sw (s_yw rfl rfl (nbt h44) (o_call ca30 rfl (tiny_Tiny_Insert_n.ok r0 r46 hr46))) ?_
                rintro v54 R _ _ ⟨_, rfl, rfl, rfl⟩
                refine r_s (s_y rfl rfl (nbt h44) (o_lenO 0 Try.underlying23 rfl rfl)) ?_
                refine r_s (s_y rfl rfl (nbt h44) (o_bin rfl rfl (bI_eq (r46.length : Int) 0))) ?_
                refine r_u (o_pt rfl (nbt h44) rfl) ?_
                refine r_u (o_mv rfl) ?_
                refine r_s (s_y rfl rfl h49 (o_mv rfl)) ?_
                refine r_s (s_y rfl rfl h49 (o_mv rfl)) ?_
                refine r_s (s_y rfl rfl h49 (o_callq ca29 rfl (hawthornlaw08_few.ok a1 r0 hr0))) ?_
                refine r_s (s_y rfl rfl h49 (o_callq ca38 rfl (tiny_Tiny_Remove_n.ok r0 _ rfl))) ?_
                refine r_s (s_y rfl rfl h49 (o_not rfl)) ?_
                refine r_u (o_pt rfl h49 rfl) ?_
                refine r_u (o_mv rfl) ?_
                refine r_s (s_n rfl rfl (nbf h52)) ?_
                refine r_s (s_n rfl rfl (nbf h52)) ?_
                refine r_s (s_n rfl rfl (nbf h52)) ?_
                refine r_s (s_n rfl rfl (nbf h52)) ?_
                refine r_s (s_n rfl rfl (nbf h52)) ?_
                refine r_u (o_pf rfl (nbf h52) rfl) ?_
                refine r_u (o_mv rfl) ?_
                refine r_s (s_n rfl rfl rfl) ?_
                refine r_s (s_n rfl rfl rfl) ?_
                refine r_s (s_n rfl rfl rfl) ?_
                refine r_s (s_n rfl rfl rfl) ?_
                refine r_u (o_pf rfl rfl rfl) ?_
                refine r_u (o_mv rfl) ?_
                refine r_s (s_n rfl rfl rfl) ?_
                refine r_s (s_n rfl rfl rfl) ?_
                refine r_s (s_n rfl rfl rfl) ?_
                refine r_u (o_pf rfl rfl rfl) ?_
                refine r_u (o_mv rfl) ?_
                refine r_s (s_n rfl rfl rfl) ?_
                refine r_s (s_n rfl rfl rfl) ?_
                refine r_s (s_n rfl rfl rfl) ?_
                refine r_s (s_n rfl rfl rfl) ?_
                refine r_s (s_n rfl rfl rfl) ?_
                refine r_s (s_nu rfl rfl) ?_
                refine r_s (s_nu rfl rfl) ?_
                refine r_s (s_n rfl rfl rfl) ?_
                refine r_s (s_n rfl rfl rfl) ?_
                refine r_u (o_pf rfl rfl rfl) ?_
                refine r_u (o_mv rfl) ?_
                refine r_s (s_n rfl rfl rfl) ?_
                refine r_s (s_n rfl rfl rfl) ?_
                refine r_s (s_n rfl rfl rfl) ?_
                refine r_s (s_n rfl rfl rfl) ?_
                refine r_s (s_n rfl rfl rfl) ?_
                refine r_u (o_pf rfl rfl rfl) ?_
                refine r_u (o_mv rfl) ?_
                refine r_s (s_n rfl rfl rfl) ?_
                refine r_s (s_n rfl rfl rfl) ?_
                refine r_u (o_pf rfl rfl rfl) ?_
                refine r_u (o_mv rfl) ?_
                refine r_s (s_n rfl rfl rfl) ?_
                refine r_s (s_n rfl rfl rfl) ?_
                refine r_s (s_n rfl rfl rfl) ?_
                refine r_u (o_pf rfl rfl rfl) ?_
                refine r_u (o_mv rfl) ?_
                refine r_s (s_n rfl rfl rfl) ?_
                refine r_s (s_n rfl rfl rfl) ?_
                refine r_s (s_n rfl rfl rfl) ?_
                refine r_u (o_pf rfl rfl rfl) ?_
                refine r_u (o_mv rfl) ?_
                refine r_s (s_n rfl rfl rfl) ?_
                refine r_s (s_n rfl rfl rfl) ?_
                refine r_s (s_n rfl rfl rfl) ?_
                refine r_s (s_n rfl rfl rfl) ?_
                refine r_u (o_pf rfl rfl rfl) ?_
                refine r_u (o_as rfl) ?_
                refine r_nil ?_
                refine x_seq ?_
                refine c_ret ?_
                obtain rfl := Option.some.inj hm53
                refine ex_st (fun _ h => st_pk 7 [] (by decide) h) ?_
                exact x_r1 rfl (rv_t rfl) (Le.refl _) ⟨_, rfl, rfl, rfl, rfl⟩
              · have hm53 := iff_ hm50 h52
                clear hm50
                refine cd_by ((tiny_Tiny_Seen_n r0) == 0) (fun h56 => ?_) fun h56 => ?_
                · have hm57 := ift hm53 h56
                  clear hm53
                  obtain ⟨y59, hy59, hm61⟩ := bs hm57
                  clear hm57
                  refine cd_st (fun _ h => st_pk 6 [3, 0, 1, 2, 4, 5] (by decide) h) ?_
                  refine cd_opt (fun ho64 => ?_) (fun x62 b63 ho64 => ?_)
                  · rintro rfl
                    have hm65 := om_n hm61 ho64
                    clear hm61
                    refine cd_st (fun _ h => st_pk 5 [4, 0, 1, 2, 3] (by decide) h) ?_
                    refine cd_opt (fun ho108 => ?_) (fun x106 b107 ho108 => ?_)
                    · rintro rfl
                      have hm109 := om_n hm65 ho108
                      clear hm65
                      refine c_reg ?_
                      refine r_u (o_callq ca28 rfl (hawthornlaw08_awake.ok r36 hr36)) ?_
                      refine r_u (o_mv rfl) ?_
                      refine r_s (s_gt rfl rfl fun g => o_mv rfl) ?_
                      refine r_s (s_gt rfl rfl fun g => o_not (evg rfl g)) ?_
                      refine r_u (o_and rfl rfl) ?_
                      refine r_u (o_mv rfl) ?_
                      refine r_s (s_y rfl rfl h38 (o_mv rfl)) ?_
                      refine r_s (s_y rfl rfl h38 (o_mv rfl)) ?_
                      refine r_s (s_y rfl rfl h38 (o_callq ca29 rfl (hawthornlaw08_few.ok a1 r0 hr0))) ?_
                      refine r_s (s_y rfl rfl h38 (o_callq ca32 rfl (tiny_Tiny_Has_n.ok r0 _ rfl))) ?_
                      refine r_s (s_y rfl rfl h38 (o_not rfl)) ?_
                      refine r_u (o_pt rfl h38 rfl) ?_
                      refine r_u (o_mv rfl) ?_
                      refine r_s (s_gt rfl rfl fun g => o_mv rfl) ?_
                      refine r_s (s_gt rfl rfl fun g => o_callq ca31 (evs1 (evg rfl g) evs0) (tiny_Tiny_Len_n.ok _ rfl)) ?_
                      refine r_s (s_gt rfl rfl fun g => o_bin (evg rfl g) rfl (bI_eq tiny_Tiny_Len_n 0)) ?_
                      refine r_u (o_and rfl rfl) ?_
                      refine r_u (o_mv rfl) ?_
                      refine r_s (s_y rfl rfl h40 (o_mv rfl)) ?_
                      refine r_s (s_y rfl rfl h40 (o_mv rfl)) ?_
                      refine r_s (s_y rfl rfl h40 (o_callq ca29 rfl (hawthornlaw08_few.ok a1 r0 hr0))) ?_
                      refine r_s (s_y rfl rfl h40 (o_callq ca34 rfl (tiny_Tiny_Touch_n.ok r0 r42 hr42))) ?_
                      refine r_s (s_y rfl rfl h40 (o_not rfl)) ?_
                      refine r_u (o_pt rfl h40 rfl) ?_
                      refine r_u (o_mv rfl) ?_
                      refine r_s (s_y rfl rfl (nbt h44) (o_mv rfl)) ?_
                      refine r_s (s_y rfl rfl (nbt h44) (o_mv rfl)) ?_
                      refine r_s (s_y rfl rfl (nbt h44) (o_callq ca29 rfl (hawthornlaw08_few.ok a1 r0 hr0))) ?_
                      refine r_sw (s_yw rfl rfl (nbt h44) (o_call ca30 rfl (tiny_Tiny_Insert_n.ok r0 r46 hr46))) ?_
                      rintro v134 R _ _ ⟨_, rfl, rfl, rfl⟩
                      refine r_s (s_y rfl rfl (nbt h44) (o_lenO 0 Try.underlying23 rfl rfl)) ?_
                      refine r_s (s_y rfl rfl (nbt h44) (o_bin rfl rfl (bI_eq (r46.length : Int) 0))) ?_
                      refine r_u (o_pt rfl (nbt h44) rfl) ?_
                      refine r_u (o_mv rfl) ?_
                      refine r_s (s_y rfl rfl h49 (o_mv rfl)) ?_
                      refine r_s (s_y rfl rfl h49 (o_mv rfl)) ?_
                      refine r_s (s_y rfl rfl h49 (o_callq ca29 rfl (hawthornlaw08_few.ok a1 r0 hr0))) ?_
                      refine r_s (s_y rfl rfl h49 (o_callq ca38 rfl (tiny_Tiny_Remove_n.ok r0 _ rfl))) ?_
                      refine r_s (s_y rfl rfl h49 (o_not rfl)) ?_
                      refine r_u (o_pt rfl h49 rfl) ?_
                      refine r_u (o_mv rfl) ?_
                      refine r_s (s_y rfl rfl (nbt h52) (o_mv rfl)) ?_
                      refine r_s (s_y rfl rfl (nbt h52) (o_mv rfl)) ?_
                      refine r_s (s_y rfl rfl (nbt h52) (o_callq ca29 rfl (hawthornlaw08_few.ok a1 r0 hr0))) ?_
                      refine r_s (s_y rfl rfl (nbt h52) (o_callq ca35 rfl (tiny_Tiny_Seen_n.ok r0 _ rfl))) ?_
                      refine r_s (s_y rfl rfl (nbt h52) (o_bin rfl rfl (bI_eq (tiny_Tiny_Seen_n r0) 0))) ?_
                      refine r_u (o_pt rfl (nbt h52) rfl) ?_
                      refine r_u (o_mv rfl) ?_
                      refine rl_ex (fun w h => st_peek 2 hy59 rfl w h) fun u135 hu135 => ?_
                      refine r_s (s_y rfl rfl h56 (o_ixA (sz := 1) Try.underlying64 (fun _ => by kernel_rfl) rfl rfl (gi_some hu135).1)) ?_
                      refine r_s (s_y rfl rfl h56 (o_ldA (o := 0) (n := 3) 1 sc23 rfl rfl hu135)) ?_
                      refine r_s (s_y rfl rfl h56 (o_lenK (kn_in 2 rfl hu135 hy59) Try.underlying23 rfl)) ?_
                      refine r_s (s_y rfl rfl h56 (o_bin rfl rfl (bI_eq (y59.length : Int) 0))) ?_
                      refine r_u (o_pt rfl h56 rfl) ?_
                      refine r_u (o_mv rfl) ?_
                      refine r_s (s_gt rfl rfl fun g => o_mv rfl) ?_
                      refine r_s (s_gt rfl rfl fun g => o_callq ca41 (evs1 (evg rfl g) evs0) (tiny_Tiny_Export_n.ok _ rfl)) ?_
                      refine r_s (s_gt rfl rfl fun g => o_bin (evg rfl g) rfl (bS_eq tiny_Tiny_Export_n [])) ?_
                      refine r_u (o_and rfl rfl) ?_
                      refine r_u (o_mv rfl) ?_
                      refine r_s (s_gt rfl rfl fun g => o_mv rfl) ?_
                      refine r_s (s_gt rfl rfl fun g => o_bin (evg rfl g) rfl (bI_eq r4.2 0)) ?_
                      refine r_s (s_gt rfl rfl fun g => o_mv rfl) ?_
                      refine r_s (s_gt rfl rfl fun g => o_bin (evg rfl g) rfl (bI_ge (iand a0 2047) 1)) ?_
                      refine r_s (s_gt rfl rfl fun g => o_mv (evg rfl g)) ?_
                      refine r_s (s_ggt rfl rfl fun g => o_mv rfl) ?_
                      refine r_s (s_ggt rfl rfl fun g => o_bin (evg rfl g) rfl (bI_le (iand a0 2047) 1000)) ?_
                      refine r_s (s_gt rfl rfl fun g => o_and (evg rfl g) (evg2 rfl g)) ?_
                      refine r_s (s_gt rfl rfl fun g => o_bin (evg rfl g) (evg rfl g) (bB_eq Try.underlying4 (r4.2 == 0) (decide (1 ≤ (iand a0 2047)) && decide ((iand a0 2047) ≤ 1000)))) ?_
                      refine r_u (o_and rfl rfl) ?_
                      refine r_u (o_mv rfl) ?_
                      refine r_s (s_gt rfl rfl fun g => o_mv rfl) ?_
                      refine r_s (s_gt rfl rfl fun g => o_bin (evg rfl g) rfl (bP_nen Try.underlying47)) ?_
                      refine r_s (s_gt rfl rfl fun g => o_mv rfl) ?_
                      refine r_s (s_gt rfl rfl fun g => o_bin (evg rfl g) rfl (bI_eq r4.2 0)) ?_
                      refine r_s (s_gt rfl rfl fun g => o_bin (evg rfl g) (evg rfl g) (bB_eq Try.underlying4 false (r4.2 == 0))) ?_
                      refine r_u (o_and rfl rfl) ?_
                      refine r_u (o_mv rfl) ?_
                      refine r_s (s_gt rfl rfl fun g => o_mv rfl) ?_
                      refine r_s (s_gt rfl rfl fun g => o_bin (evg rfl g) rfl (bI_eq r9.2 0)) ?_
                      refine r_u (o_and rfl rfl) ?_
                      refine r_u (o_mv rfl) ?_
                      refine r_s (s_gt rfl rfl fun g => o_mv rfl) ?_
                      refine r_s (s_gt rfl rfl fun g => o_lenO 4 Try.underlying23 (evg rfl g) rfl) ?_
                      refine r_s (s_gt rfl rfl fun g => o_bin (evg rfl g) rfl (bI_eq (p17.2.length : Int) 0)) ?_
                      refine r_u (o_and rfl rfl) ?_
                      refine r_u (o_mv rfl) ?_
                      refine r_s (s_gt rfl rfl fun g => o_mv rfl) ?_
                      refine r_s (s_gt rfl rfl fun g => o_callq ca31 (evs1 (evg rfl g) evs0) (tiny_Tiny_Len_n.ok _ rfl)) ?_
                      refine r_s (s_gt rfl rfl fun g => o_bin (evg rfl g) rfl (bI_eq tiny_Tiny_Len_n 0)) ?_
                      refine r_u (o_and rfl rfl) ?_
                      refine r_u (o_mv rfl) ?_
                      refine r_s (s_gt rfl rfl fun g => o_mv rfl) ?_
                      refine r_s (s_gt rfl rfl fun g => o_mv rfl) ?_
                      refine r_s (s_gt rfl rfl fun g => o_callq ca35 (evs1 (evg rfl g) (evs1 (evg rfl g) evs0)) (tiny_Tiny_Seen_n.ok l15 _ rfl)) ?_
                      refine r_s (s_gt rfl rfl fun g => o_bin (evg rfl g) rfl (bI_eq (tiny_Tiny_Seen_n l15) 0)) ?_
                      refine r_u (o_and rfl rfl) ?_
                      refine r_u (o_as rfl) ?_
                      refine r_nil ?_
                      refine x_seq ?_
                      refine c_ret ?_
                      obtain rfl := Option.some.inj hm109
                      refine ex_st (fun _ h => st_pk 5 [] (by decide) h) ?_
                      exact x_r1 rfl (rv_t rfl) (Le.refl _) ⟨_, rfl, rfl, rfl, rfl⟩
                    · rintro rfl
                      have hm109 := om_s hm65 ho108
                      clear hm65
                      obtain ⟨⟨pv111, g112⟩, ⟨pv114, g115⟩⟩ := g28
                      refine cd_st (fun _ h => st_star_o h) ?_
                      refine cd_by (((((((y59.length : Int) == 0) && (tiny_Tiny_Export_n == [])) && ((r4.2 == 0) == (decide (1 ≤ (iand a0 2047)) && decide ((iand a0 2047) ≤ 1000)))) && (false == (r4.2 == 0))) && (r9.2 == 0)) && ((p17.2.length : Int) == 0)) (fun h118 => ?_) fun h118 => ?_
                      · have hm119 := ift hm109 h118
                        clear hm109
                        obtain ⟨r122, hr122, hm123⟩ := bs hm119
                        clear hm119
                        refine cd_by (r122 == 0) (fun h124 => ?_) fun h124 => ?_
                        · have hm125 := ift hm123 h124
                          clear hm123
                          refine c_reg ?_
                          refine r_u (o_callq ca28 rfl (hawthornlaw08_awake.ok r36 hr36)) ?_
                          refine r_u (o_mv rfl) ?_
                          refine r_s (s_gt rfl rfl fun g => o_mv rfl) ?_
                          refine r_s (s_gt rfl rfl fun g => o_not (evg rfl g)) ?_
                          refine r_u (o_and rfl rfl) ?_
                          refine r_u (o_mv rfl) ?_
                          refine r_s (s_y rfl rfl h38 (o_mv rfl)) ?_
                          refine r_s (s_y rfl rfl h38 (o_mv rfl)) ?_
                          refine r_s (s_y rfl rfl h38 (o_callq ca29 rfl (hawthornlaw08_few.ok a1 r0 hr0))) ?_
                          refine r_s (s_y rfl rfl h38 (o_callq ca32 rfl (tiny_Tiny_Has_n.ok r0 _ rfl))) ?_
                          refine r_s (s_y rfl rfl h38 (o_not rfl)) ?_
                          refine r_u (o_pt rfl h38 rfl) ?_
                          refine r_u (o_mv rfl) ?_
                          refine r_s (s_gt rfl rfl fun g => o_mv rfl) ?_
                          refine r_s (s_gt rfl rfl fun g => o_callq ca31 (evs1 (evg rfl g) evs0) (tiny_Tiny_Len_n.ok _ rfl)) ?_
                          refine r_s (s_gt rfl rfl fun g => o_bin (evg rfl g) rfl (bI_eq tiny_Tiny_Len_n 0)) ?_
                          refine r_u (o_and rfl rfl) ?_
                          refine r_u (o_mv rfl) ?_
                          refine r_s (s_y rfl rfl h40 (o_mv rfl)) ?_
                          refine r_s (s_y rfl rfl h40 (o_mv rfl)) ?_
                          refine r_s (s_y rfl rfl h40 (o_callq ca29 rfl (hawthornlaw08_few.ok a1 r0 hr0))) ?_
                          refine r_s (s_y rfl rfl h40 (o_callq ca34 rfl (tiny_Tiny_Touch_n.ok r0 r42 hr42))) ?_
                          refine r_s (s_y rfl rfl h40 (o_not rfl)) ?_
                          refine r_u (o_pt rfl h40 rfl) ?_
                          refine r_u (o_mv rfl) ?_
                          refine r_s (s_y rfl rfl (nbt h44) (o_mv rfl)) ?_
                          refine r_s (s_y rfl rfl (nbt h44) (o_mv rfl)) ?_
                          refine r_s (s_y rfl rfl (nbt h44) (o_callq ca29 rfl (hawthornlaw08_few.ok a1 r0 hr0))) ?_
                          refine r_sw (s_yw rfl rfl (nbt h44) (o_call ca30 rfl (tiny_Tiny_Insert_n.ok r0 r46 hr46))) ?_
                          rintro v126 R _ _ ⟨_, rfl, rfl, rfl⟩
                          refine r_s (s_y rfl rfl (nbt h44) (o_lenO 0 Try.underlying23 rfl rfl)) ?_
                          refine r_s (s_y rfl rfl (nbt h44) (o_bin rfl rfl (bI_eq (r46.length : Int) 0))) ?_
                          refine r_u (o_pt rfl (nbt h44) rfl) ?_
                          refine r_u (o_mv rfl) ?_
                          refine r_s (s_y rfl rfl h49 (o_mv rfl)) ?_
                          refine r_s (s_y rfl rfl h49 (o_mv rfl)) ?_
                          refine r_s (s_y rfl rfl h49 (o_callq ca29 rfl (hawthornlaw08_few.ok a1 r0 hr0))) ?_
                          refine r_s (s_y rfl rfl h49 (o_callq ca38 rfl (tiny_Tiny_Remove_n.ok r0 _ rfl))) ?_
                          refine r_s (s_y rfl rfl h49 (o_not rfl)) ?_
                          refine r_u (o_pt rfl h49 rfl) ?_
                          refine r_u (o_mv rfl) ?_
                          refine r_s (s_y rfl rfl (nbt h52) (o_mv rfl)) ?_
                          refine r_s (s_y rfl rfl (nbt h52) (o_mv rfl)) ?_
                          refine r_s (s_y rfl rfl (nbt h52) (o_callq ca29 rfl (hawthornlaw08_few.ok a1 r0 hr0))) ?_
                          refine r_s (s_y rfl rfl (nbt h52) (o_callq ca35 rfl (tiny_Tiny_Seen_n.ok r0 _ rfl))) ?_
                          refine r_s (s_y rfl rfl (nbt h52) (o_bin rfl rfl (bI_eq (tiny_Tiny_Seen_n r0) 0))) ?_
                          refine r_u (o_pt rfl (nbt h52) rfl) ?_
                          refine r_u (o_mv rfl) ?_
                          refine rl_ex (fun w h => st_peek 5 hy59 rfl w h) fun u127 hu127 => ?_
                          refine r_s (s_y rfl rfl h56 (o_ixA (sz := 1) Try.underlying64 (fun _ => by kernel_rfl) rfl rfl (gi_some hu127).1)) ?_
                          refine r_s (s_y rfl rfl h56 (o_ldA (o := 0) (n := 3) 4 sc23 rfl rfl hu127)) ?_
                          refine r_s (s_y rfl rfl h56 (o_lenK (kn_in 5 rfl hu127 hy59) Try.underlying23 rfl)) ?_
                          refine r_s (s_y rfl rfl h56 (o_bin rfl rfl (bI_eq (y59.length : Int) 0))) ?_
                          refine r_u (o_pt rfl h56 rfl) ?_
                          refine r_u (o_mv rfl) ?_
                          refine r_s (s_gt rfl rfl fun g => o_mv rfl) ?_
                          refine r_s (s_gt rfl rfl fun g => o_callq ca41 (evs1 (evg rfl g) evs0) (tiny_Tiny_Export_n.ok _ rfl)) ?_
                          refine r_s (s_gt rfl rfl fun g => o_bin (evg rfl g) rfl (bS_eq tiny_Tiny_Export_n [])) ?_
                          refine r_u (o_and rfl rfl) ?_
                          refine r_u (o_mv rfl) ?_
                          refine r_s (s_gt rfl rfl fun g => o_mv rfl) ?_
                          refine r_s (s_gt rfl rfl fun g => o_bin (evg rfl g) rfl (bI_eq r4.2 0)) ?_
                          refine r_s (s_gt rfl rfl fun g => o_mv rfl) ?_
                          refine r_s (s_gt rfl rfl fun g => o_bin (evg rfl g) rfl (bI_ge (iand a0 2047) 1)) ?_
                          refine r_s (s_gt rfl rfl fun g => o_mv (evg rfl g)) ?_
                          refine r_s (s_ggt rfl rfl fun g => o_mv rfl) ?_
                          refine r_s (s_ggt rfl rfl fun g => o_bin (evg rfl g) rfl (bI_le (iand a0 2047) 1000)) ?_
                          refine r_s (s_gt rfl rfl fun g => o_and (evg rfl g) (evg2 rfl g)) ?_
                          refine r_s (s_gt rfl rfl fun g => o_bin (evg rfl g) (evg rfl g) (bB_eq Try.underlying4 (r4.2 == 0) (decide (1 ≤ (iand a0 2047)) && decide ((iand a0 2047) ≤ 1000)))) ?_
                          refine r_u (o_and rfl rfl) ?_
                          refine r_u (o_mv rfl) ?_
                          refine r_s (s_gt rfl rfl fun g => o_mv rfl) ?_
                          refine r_s (s_gt rfl rfl fun g => o_bin (evg rfl g) rfl (bP_nen Try.underlying47)) ?_
                          refine r_s (s_gt rfl rfl fun g => o_mv rfl) ?_
                          refine r_s (s_gt rfl rfl fun g => o_bin (evg rfl g) rfl (bI_eq r4.2 0)) ?_
                          refine r_s (s_gt rfl rfl fun g => o_bin (evg rfl g) (evg rfl g) (bB_eq Try.underlying4 false (r4.2 == 0))) ?_
                          refine r_u (o_and rfl rfl) ?_
                          refine r_u (o_mv rfl) ?_
                          refine r_s (s_gt rfl rfl fun g => o_mv rfl) ?_
                          refine r_s (s_gt rfl rfl fun g => o_bin (evg rfl g) rfl (bI_eq r9.2 0)) ?_
                          refine r_u (o_and rfl rfl) ?_
                          refine r_u (o_mv rfl) ?_
                          refine r_s (s_gt rfl rfl fun g => o_mv rfl) ?_
                          refine r_s (s_gt rfl rfl fun g => o_lenO 7 Try.underlying23 (evg rfl g) rfl) ?_
                          refine r_s (s_gt rfl rfl fun g => o_bin (evg rfl g) rfl (bI_eq (p17.2.length : Int) 0)) ?_
                          refine r_u (o_and rfl rfl) ?_
                          refine r_u (o_mv rfl) ?_
                          refine r_s (s_y rfl rfl h118 (o_mv rfl)) ?_
                          refine rl_st (fun _ h => st_pk 8 [1, 2, 3, 0, 4, 5, 6, 7] (by decide) h) ?_
                          refine r_c (s_yw rfl rfl h118 (o_call ca31 rfl (tiny_Tiny_Len.ok b107 x106 (⟨(pv111, g112), (pv114, g115)⟩ : tiny_Tiny.G) r122 hr122))) ?_
                          refine r_s (s_y rfl rfl h118 (o_bin rfl rfl (bI_eq r122 0))) ?_
                          refine r_u (o_pt rfl h118 rfl) ?_
                          refine r_u (o_mv rfl) ?_
                          refine r_s (s_y rfl rfl h124 (o_mv rfl)) ?_
                          refine r_s (s_y rfl rfl h124 (o_mv rfl)) ?_
                          obtain ⟨r128, hr128, hm129⟩ := bs hm125
                          clear hm125
                          refine r_c (s_yw rfl rfl h124 (o_call ca35 rfl (tiny_Tiny_Seen.ok b107 x106 (⟨(pv111, g112), (pv114, g115)⟩ : tiny_Tiny.G) l15 r128 hr128))) ?_
                          refine r_s (s_y rfl rfl h124 (o_bin rfl rfl (bI_eq r128 0))) ?_
                          refine r_u (o_pt rfl h124 rfl) ?_
                          refine r_u (o_as rfl) ?_
                          refine r_nil ?_
                          refine x_seq ?_
                          refine c_ret ?_
                          obtain rfl := Option.some.inj hm129
                          refine ex_st (fun _ h => st_pk 8 [] (by decide) h) ?_
                          exact x_r1 rfl (rv_t rfl) (Le.refl _) ⟨_, rfl, rfl, rfl, rfl⟩
                        · have hm125 := iff_ hm123 h124
                          clear hm123
                          refine c_reg ?_
                          refine r_u (o_callq ca28 rfl (hawthornlaw08_awake.ok r36 hr36)) ?_
                          refine r_u (o_mv rfl) ?_
                          refine r_s (s_gt rfl rfl fun g => o_mv rfl) ?_
                          refine r_s (s_gt rfl rfl fun g => o_not (evg rfl g)) ?_
                          refine r_u (o_and rfl rfl) ?_
                          refine r_u (o_mv rfl) ?_
                          refine r_s (s_y rfl rfl h38 (o_mv rfl)) ?_
                          refine r_s (s_y rfl rfl h38 (o_mv rfl)) ?_
                          refine r_s (s_y rfl rfl h38 (o_callq ca29 rfl (hawthornlaw08_few.ok a1 r0 hr0))) ?_
                          refine r_s (s_y rfl rfl h38 (o_callq ca32 rfl (tiny_Tiny_Has_n.ok r0 _ rfl))) ?_
                          refine r_s (s_y rfl rfl h38 (o_not rfl)) ?_
                          refine r_u (o_pt rfl h38 rfl) ?_
                          refine r_u (o_mv rfl) ?_
                          refine r_s (s_gt rfl rfl fun g => o_mv rfl) ?_
                          refine r_s (s_gt rfl rfl fun g => o_callq ca31 (evs1 (evg rfl g) evs0) (tiny_Tiny_Len_n.ok _ rfl)) ?_
                          refine r_s (s_gt rfl rfl fun g => o_bin (evg rfl g) rfl (bI_eq tiny_Tiny_Len_n 0)) ?_
                          refine r_u (o_and rfl rfl) ?_
                          refine r_u (o_mv rfl) ?_
                          refine r_s (s_y rfl rfl h40 (o_mv rfl)) ?_
                          refine r_s (s_y rfl rfl h40 (o_mv rfl)) ?_
                          refine r_s (s_y rfl rfl h40 (o_callq ca29 rfl (hawthornlaw08_few.ok a1 r0 hr0))) ?_
                          refine r_s (s_y rfl rfl h40 (o_callq ca34 rfl (tiny_Tiny_Touch_n.ok r0 r42 hr42))) ?_
                          refine r_s (s_y rfl rfl h40 (o_not rfl)) ?_
                          refine r_u (o_pt rfl h40 rfl) ?_
                          refine r_u (o_mv rfl) ?_
                          refine r_s (s_y rfl rfl (nbt h44) (o_mv rfl)) ?_
                          refine r_s (s_y rfl rfl (nbt h44) (o_mv rfl)) ?_
                          refine r_s (s_y rfl rfl (nbt h44) (o_callq ca29 rfl (hawthornlaw08_few.ok a1 r0 hr0))) ?_
                          refine r_sw (s_yw rfl rfl (nbt h44) (o_call ca30 rfl (tiny_Tiny_Insert_n.ok r0 r46 hr46))) ?_
                          rintro v130 R _ _ ⟨_, rfl, rfl, rfl⟩
                          refine r_s (s_y rfl rfl (nbt h44) (o_lenO 0 Try.underlying23 rfl rfl)) ?_
                          refine r_s (s_y rfl rfl (nbt h44) (o_bin rfl rfl (bI_eq (r46.length : Int) 0))) ?_
                          refine r_u (o_pt rfl (nbt h44) rfl) ?_
                          refine r_u (o_mv rfl) ?_
                          refine r_s (s_y rfl rfl h49 (o_mv rfl)) ?_
                          refine r_s (s_y rfl rfl h49 (o_mv rfl)) ?_
                          refine r_s (s_y rfl rfl h49 (o_callq ca29 rfl (hawthornlaw08_few.ok a1 r0 hr0))) ?_
                          refine r_s (s_y rfl rfl h49 (o_callq ca38 rfl (tiny_Tiny_Remove_n.ok r0 _ rfl))) ?_
                          refine r_s (s_y rfl rfl h49 (o_not rfl)) ?_
                          refine r_u (o_pt rfl h49 rfl) ?_
                          refine r_u (o_mv rfl) ?_
                          refine r_s (s_y rfl rfl (nbt h52) (o_mv rfl)) ?_
                          refine r_s (s_y rfl rfl (nbt h52) (o_mv rfl)) ?_
                          refine r_s (s_y rfl rfl (nbt h52) (o_callq ca29 rfl (hawthornlaw08_few.ok a1 r0 hr0))) ?_
                          refine r_s (s_y rfl rfl (nbt h52) (o_callq ca35 rfl (tiny_Tiny_Seen_n.ok r0 _ rfl))) ?_
                          refine r_s (s_y rfl rfl (nbt h52) (o_bin rfl rfl (bI_eq (tiny_Tiny_Seen_n r0) 0))) ?_
                          refine r_u (o_pt rfl (nbt h52) rfl) ?_
                          refine r_u (o_mv rfl) ?_
                          refine rl_ex (fun w h => st_peek 5 hy59 rfl w h) fun u131 hu131 => ?_
                          refine r_s (s_y rfl rfl h56 (o_ixA (sz := 1) Try.underlying64 (fun _ => by kernel_rfl) rfl rfl (gi_some hu131).1)) ?_
                          refine r_s (s_y rfl rfl h56 (o_ldA (o := 0) (n := 3) 4 sc23 rfl rfl hu131)) ?_
                          refine r_s (s_y rfl rfl h56 (o_lenK (kn_in 5 rfl hu131 hy59) Try.underlying23 rfl)) ?_
                          refine r_s (s_y rfl rfl h56 (o_bin rfl rfl (bI_eq (y59.length : Int) 0))) ?_
                          refine r_u (o_pt rfl h56 rfl) ?_
                          refine r_u (o_mv rfl) ?_
                          refine r_s (s_gt rfl rfl fun g => o_mv rfl) ?_
                          refine r_s (s_gt rfl rfl fun g => o_callq ca41 (evs1 (evg rfl g) evs0) (tiny_Tiny_Export_n.ok _ rfl)) ?_
                          refine r_s (s_gt rfl rfl fun g => o_bin (evg rfl g) rfl (bS_eq tiny_Tiny_Export_n [])) ?_
                          refine r_u (o_and rfl rfl) ?_
                          refine r_u (o_mv rfl) ?_
                          refine r_s (s_gt rfl rfl fun g => o_mv rfl) ?_
                          refine r_s (s_gt rfl rfl fun g => o_bin (evg rfl g) rfl (bI_eq r4.2 0)) ?_
                          refine r_s (s_gt rfl rfl fun g => o_mv rfl) ?_
                          refine r_s (s_gt rfl rfl fun g => o_bin (evg rfl g) rfl (bI_ge (iand a0 2047) 1)) ?_
                          refine r_s (s_gt rfl rfl fun g => o_mv (evg rfl g)) ?_
                          refine r_s (s_ggt rfl rfl fun g => o_mv rfl) ?_
                          refine r_s (s_ggt rfl rfl fun g => o_bin (evg rfl g) rfl (bI_le (iand a0 2047) 1000)) ?_
                          refine r_s (s_gt rfl rfl fun g => o_and (evg rfl g) (evg2 rfl g)) ?_
                          refine r_s (s_gt rfl rfl fun g => o_bin (evg rfl g) (evg rfl g) (bB_eq Try.underlying4 (r4.2 == 0) (decide (1 ≤ (iand a0 2047)) && decide ((iand a0 2047) ≤ 1000)))) ?_
                          refine r_u (o_and rfl rfl) ?_
                          refine r_u (o_mv rfl) ?_
                          refine r_s (s_gt rfl rfl fun g => o_mv rfl) ?_
                          refine r_s (s_gt rfl rfl fun g => o_bin (evg rfl g) rfl (bP_nen Try.underlying47)) ?_
                          refine r_s (s_gt rfl rfl fun g => o_mv rfl) ?_
                          refine r_s (s_gt rfl rfl fun g => o_bin (evg rfl g) rfl (bI_eq r4.2 0)) ?_
                          refine r_s (s_gt rfl rfl fun g => o_bin (evg rfl g) (evg rfl g) (bB_eq Try.underlying4 false (r4.2 == 0))) ?_
                          refine r_u (o_and rfl rfl) ?_
                          refine r_u (o_mv rfl) ?_
                          refine r_s (s_gt rfl rfl fun g => o_mv rfl) ?_
                          refine r_s (s_gt rfl rfl fun g => o_bin (evg rfl g) rfl (bI_eq r9.2 0)) ?_
                          refine r_u (o_and rfl rfl) ?_
                          refine r_u (o_mv rfl) ?_
                          refine r_s (s_gt rfl rfl fun g => o_mv rfl) ?_
                          refine r_s (s_gt rfl rfl fun g => o_lenO 7 Try.underlying23 (evg rfl g) rfl) ?_
                          refine r_s (s_gt rfl rfl fun g => o_bin (evg rfl g) rfl (bI_eq (p17.2.length : Int) 0)) ?_
                          refine r_u (o_and rfl rfl) ?_
                          refine r_u (o_mv rfl) ?_
                          refine r_s (s_y rfl rfl h118 (o_mv rfl)) ?_
                          refine rl_st (fun _ h => st_pk 8 [1, 2, 3, 0, 4, 5, 6, 7] (by decide) h) ?_
                          refine r_c (s_yw rfl rfl h118 (o_call ca31 rfl (tiny_Tiny_Len.ok b107 x106 (⟨(pv111, g112), (pv114, g115)⟩ : tiny_Tiny.G) r122 hr122))) ?_
                          refine r_s (s_y rfl rfl h118 (o_bin rfl rfl (bI_eq r122 0))) ?_
                          refine r_u (o_pt rfl h118 rfl) ?_
                          refine r_u (o_mv rfl) ?_
                          refine r_s (s_n rfl rfl h124) ?_
                          refine r_s (s_n rfl rfl h124) ?_
                          refine r_s (s_n rfl rfl h124) ?_
                          refine r_s (s_n rfl rfl h124) ?_
                          refine r_u (o_pf rfl h124 rfl) ?_
                          refine r_u (o_as rfl) ?_
                          refine r_nil ?_
                          refine x_seq ?_
                          refine c_ret ?_
                          obtain rfl := Option.some.inj hm125
                          refine ex_st (fun _ h => st_pk 8 [] (by decide) h) ?_
                          exact x_r1 rfl (rv_t rfl) (Le.refl _) ⟨_, rfl, rfl, rfl, rfl⟩
                      · have hm119 := iff_ hm109 h118
                        clear hm109
                        refine c_reg ?_
                        refine r_u (o_callq ca28 rfl (hawthornlaw08_awake.ok r36 hr36)) ?_
                        refine r_u (o_mv rfl) ?_
                        refine r_s (s_gt rfl rfl fun g => o_mv rfl) ?_
                        refine r_s (s_gt rfl rfl fun g => o_not (evg rfl g)) ?_
                        refine r_u (o_and rfl rfl) ?_
                        refine r_u (o_mv rfl) ?_
                        refine r_s (s_y rfl rfl h38 (o_mv rfl)) ?_
                        refine r_s (s_y rfl rfl h38 (o_mv rfl)) ?_
                        refine r_s (s_y rfl rfl h38 (o_callq ca29 rfl (hawthornlaw08_few.ok a1 r0 hr0))) ?_
                        refine r_s (s_y rfl rfl h38 (o_callq ca32 rfl (tiny_Tiny_Has_n.ok r0 _ rfl))) ?_
                        refine r_s (s_y rfl rfl h38 (o_not rfl)) ?_
                        refine r_u (o_pt rfl h38 rfl) ?_
                        refine r_u (o_mv rfl) ?_
                        refine r_s (s_gt rfl rfl fun g => o_mv rfl) ?_
                        refine r_s (s_gt rfl rfl fun g => o_callq ca31 (evs1 (evg rfl g) evs0) (tiny_Tiny_Len_n.ok _ rfl)) ?_
                        refine r_s (s_gt rfl rfl fun g => o_bin (evg rfl g) rfl (bI_eq tiny_Tiny_Len_n 0)) ?_
                        refine r_u (o_and rfl rfl) ?_
                        refine r_u (o_mv rfl) ?_
                        refine r_s (s_y rfl rfl h40 (o_mv rfl)) ?_
                        refine r_s (s_y rfl rfl h40 (o_mv rfl)) ?_
                        refine r_s (s_y rfl rfl h40 (o_callq ca29 rfl (hawthornlaw08_few.ok a1 r0 hr0))) ?_
                        refine r_s (s_y rfl rfl h40 (o_callq ca34 rfl (tiny_Tiny_Touch_n.ok r0 r42 hr42))) ?_
                        refine r_s (s_y rfl rfl h40 (o_not rfl)) ?_
                        refine r_u (o_pt rfl h40 rfl) ?_
                        refine r_u (o_mv rfl) ?_
                        refine r_s (s_y rfl rfl (nbt h44) (o_mv rfl)) ?_
                        refine r_s (s_y rfl rfl (nbt h44) (o_mv rfl)) ?_
                        refine r_s (s_y rfl rfl (nbt h44) (o_callq ca29 rfl (hawthornlaw08_few.ok a1 r0 hr0))) ?_
                        refine r_sw (s_yw rfl rfl (nbt h44) (o_call ca30 rfl (tiny_Tiny_Insert_n.ok r0 r46 hr46))) ?_
                        rintro v132 R _ _ ⟨_, rfl, rfl, rfl⟩
                        refine r_s (s_y rfl rfl (nbt h44) (o_lenO 0 Try.underlying23 rfl rfl)) ?_
                        refine r_s (s_y rfl rfl (nbt h44) (o_bin rfl rfl (bI_eq (r46.length : Int) 0))) ?_
                        refine r_u (o_pt rfl (nbt h44) rfl) ?_
                        refine r_u (o_mv rfl) ?_
                        refine r_s (s_y rfl rfl h49 (o_mv rfl)) ?_
                        refine r_s (s_y rfl rfl h49 (o_mv rfl)) ?_
                        refine r_s (s_y rfl rfl h49 (o_callq ca29 rfl (hawthornlaw08_few.ok a1 r0 hr0))) ?_
                        refine r_s (s_y rfl rfl h49 (o_callq ca38 rfl (tiny_Tiny_Remove_n.ok r0 _ rfl))) ?_
                        refine r_s (s_y rfl rfl h49 (o_not rfl)) ?_
                        refine r_u (o_pt rfl h49 rfl) ?_
                        refine r_u (o_mv rfl) ?_
                        refine r_s (s_y rfl rfl (nbt h52) (o_mv rfl)) ?_
                        refine r_s (s_y rfl rfl (nbt h52) (o_mv rfl)) ?_
                        refine r_s (s_y rfl rfl (nbt h52) (o_callq ca29 rfl (hawthornlaw08_few.ok a1 r0 hr0))) ?_
                        refine r_s (s_y rfl rfl (nbt h52) (o_callq ca35 rfl (tiny_Tiny_Seen_n.ok r0 _ rfl))) ?_
                        refine r_s (s_y rfl rfl (nbt h52) (o_bin rfl rfl (bI_eq (tiny_Tiny_Seen_n r0) 0))) ?_
                        refine r_u (o_pt rfl (nbt h52) rfl) ?_
                        refine r_u (o_mv rfl) ?_
                        refine rl_ex (fun w h => st_peek 5 hy59 rfl w h) fun u133 hu133 => ?_
                        refine r_s (s_y rfl rfl h56 (o_ixA (sz := 1) Try.underlying64 (fun _ => by kernel_rfl) rfl rfl (gi_some hu133).1)) ?_
                        refine r_s (s_y rfl rfl h56 (o_ldA (o := 0) (n := 3) 4 sc23 rfl rfl hu133)) ?_
                        refine r_s (s_y rfl rfl h56 (o_lenK (kn_in 5 rfl hu133 hy59) Try.underlying23 rfl)) ?_
                        refine r_s (s_y rfl rfl h56 (o_bin rfl rfl (bI_eq (y59.length : Int) 0))) ?_
                        refine r_u (o_pt rfl h56 rfl) ?_
                        refine r_u (o_mv rfl) ?_
                        refine r_s (s_gt rfl rfl fun g => o_mv rfl) ?_
                        refine r_s (s_gt rfl rfl fun g => o_callq ca41 (evs1 (evg rfl g) evs0) (tiny_Tiny_Export_n.ok _ rfl)) ?_
                        refine r_s (s_gt rfl rfl fun g => o_bin (evg rfl g) rfl (bS_eq tiny_Tiny_Export_n [])) ?_
                        refine r_u (o_and rfl rfl) ?_
                        refine r_u (o_mv rfl) ?_
                        refine r_s (s_gt rfl rfl fun g => o_mv rfl) ?_
                        refine r_s (s_gt rfl rfl fun g => o_bin (evg rfl g) rfl (bI_eq r4.2 0)) ?_
                        refine r_s (s_gt rfl rfl fun g => o_mv rfl) ?_
                        refine r_s (s_gt rfl rfl fun g => o_bin (evg rfl g) rfl (bI_ge (iand a0 2047) 1)) ?_
                        refine r_s (s_gt rfl rfl fun g => o_mv (evg rfl g)) ?_
                        refine r_s (s_ggt rfl rfl fun g => o_mv rfl) ?_
                        refine r_s (s_ggt rfl rfl fun g => o_bin (evg rfl g) rfl (bI_le (iand a0 2047) 1000)) ?_
                        refine r_s (s_gt rfl rfl fun g => o_and (evg rfl g) (evg2 rfl g)) ?_
                        refine r_s (s_gt rfl rfl fun g => o_bin (evg rfl g) (evg rfl g) (bB_eq Try.underlying4 (r4.2 == 0) (decide (1 ≤ (iand a0 2047)) && decide ((iand a0 2047) ≤ 1000)))) ?_
                        refine r_u (o_and rfl rfl) ?_
                        refine r_u (o_mv rfl) ?_
                        refine r_s (s_gt rfl rfl fun g => o_mv rfl) ?_
                        refine r_s (s_gt rfl rfl fun g => o_bin (evg rfl g) rfl (bP_nen Try.underlying47)) ?_
                        refine r_s (s_gt rfl rfl fun g => o_mv rfl) ?_
                        refine r_s (s_gt rfl rfl fun g => o_bin (evg rfl g) rfl (bI_eq r4.2 0)) ?_
                        refine r_s (s_gt rfl rfl fun g => o_bin (evg rfl g) (evg rfl g) (bB_eq Try.underlying4 false (r4.2 == 0))) ?_
                        refine r_u (o_and rfl rfl) ?_
                        refine r_u (o_mv rfl) ?_
                        refine r_s (s_gt rfl rfl fun g => o_mv rfl) ?_
                        refine r_s (s_gt rfl rfl fun g => o_bin (evg rfl g) rfl (bI_eq r9.2 0)) ?_
                        refine r_u (o_and rfl rfl) ?_
                        refine r_u (o_mv rfl) ?_
                        refine r_s (s_gt rfl rfl fun g => o_mv rfl) ?_
                        refine r_s (s_gt rfl rfl fun g => o_lenO 7 Try.underlying23 (evg rfl g) rfl) ?_
                        refine r_s (s_gt rfl rfl fun g => o_bin (evg rfl g) rfl (bI_eq (p17.2.length : Int) 0)) ?_
                        refine r_u (o_and rfl rfl) ?_
                        refine r_u (o_mv rfl) ?_
                        refine r_s (s_n rfl rfl h118) ?_
                        refine r_s (s_n rfl rfl h118) ?_
                        refine r_s (s_n rfl rfl h118) ?_
                        refine r_u (o_pf rfl h118 rfl) ?_
                        refine r_u (o_mv rfl) ?_
                        refine r_s (s_n rfl rfl rfl) ?_
                        refine r_s (s_n rfl rfl rfl) ?_
                        refine r_s (s_n rfl rfl rfl) ?_
                        refine r_s (s_n rfl rfl rfl) ?_
                        refine r_u (o_pf rfl rfl rfl) ?_
                        refine r_u (o_as rfl) ?_
                        refine r_nil ?_
                        refine x_seq ?_
                        refine c_ret ?_
                        obtain rfl := Option.some.inj hm119
                        refine ex_st (fun _ h => st_pk 8 [] (by decide) h) ?_
                        exact x_r1 rfl (rv_t rfl) (Le.refl _) ⟨_, rfl, rfl, rfl, rfl⟩
                  · rintro rfl
                    have hm65 := om_s hm61 ho64
                    clear hm61
                    obtain ⟨⟨pv67, g68⟩, ⟨pv70, g71⟩⟩ := g7
                    refine cd_st (fun _ h => st_star_o h) ?_
                    refine cd_st (fun _ h => st_pk 8 [7, 0, 1, 2, 3, 4, 5, 6] (by decide) h) ?_
                    refine cd_opt (fun ho76 => ?_) (fun x74 b75 ho76 => ?_)
                    · rintro rfl
                      have hm77 := om_n hm65 ho76
                      clear hm65
                      refine c_reg ?_
                      refine r_u (o_callq ca28 rfl (hawthornlaw08_awake.ok r36 hr36)) ?_
                      refine r_u (o_mv rfl) ?_
                      refine r_s (s_gt rfl rfl fun g => o_mv rfl) ?_
                      refine r_s (s_gt rfl rfl fun g => o_not (evg rfl g)) ?_
                      refine r_u (o_and rfl rfl) ?_
                      refine r_u (o_mv rfl) ?_
                      refine r_s (s_y rfl rfl h38 (o_mv rfl)) ?_
                      refine r_s (s_y rfl rfl h38 (o_mv rfl)) ?_
                      refine r_s (s_y rfl rfl h38 (o_callq ca29 rfl (hawthornlaw08_few.ok a1 r0 hr0))) ?_
                      refine r_s (s_y rfl rfl h38 (o_callq ca32 rfl (tiny_Tiny_Has_n.ok r0 _ rfl))) ?_
                      refine r_s (s_y rfl rfl h38 (o_not rfl)) ?_
                      refine r_u (o_pt rfl h38 rfl) ?_
                      refine r_u (o_mv rfl) ?_
                      refine r_s (s_gt rfl rfl fun g => o_mv rfl) ?_
                      refine r_s (s_gt rfl rfl fun g => o_callq ca31 (evs1 (evg rfl g) evs0) (tiny_Tiny_Len_n.ok _ rfl)) ?_
                      refine r_s (s_gt rfl rfl fun g => o_bin (evg rfl g) rfl (bI_eq tiny_Tiny_Len_n 0)) ?_
                      refine r_u (o_and rfl rfl) ?_
                      refine r_u (o_mv rfl) ?_
                      refine r_s (s_y rfl rfl h40 (o_mv rfl)) ?_
                      refine r_s (s_y rfl rfl h40 (o_mv rfl)) ?_
                      refine r_s (s_y rfl rfl h40 (o_callq ca29 rfl (hawthornlaw08_few.ok a1 r0 hr0))) ?_
                      refine r_s (s_y rfl rfl h40 (o_callq ca34 rfl (tiny_Tiny_Touch_n.ok r0 r42 hr42))) ?_
                      refine r_s (s_y rfl rfl h40 (o_not rfl)) ?_
                      refine r_u (o_pt rfl h40 rfl) ?_
                      refine r_u (o_mv rfl) ?_
                      refine r_s (s_y rfl rfl (nbt h44) (o_mv rfl)) ?_
                      refine r_s (s_y rfl rfl (nbt h44) (o_mv rfl)) ?_
                      refine r_s (s_y rfl rfl (nbt h44) (o_callq ca29 rfl (hawthornlaw08_few.ok a1 r0 hr0))) ?_
                      refine r_sw (s_yw rfl rfl (nbt h44) (o_call ca30 rfl (tiny_Tiny_Insert_n.ok r0 r46 hr46))) ?_
                      rintro v102 R _ _ ⟨_, rfl, rfl, rfl⟩
                      refine r_s (s_y rfl rfl (nbt h44) (o_lenO 0 Try.underlying23 rfl rfl)) ?_
                      refine r_s (s_y rfl rfl (nbt h44) (o_bin rfl rfl (bI_eq (r46.length : Int) 0))) ?_
                      refine r_u (o_pt rfl (nbt h44) rfl) ?_
                      refine r_u (o_mv rfl) ?_
                      refine r_s (s_y rfl rfl h49 (o_mv rfl)) ?_
                      refine r_s (s_y rfl rfl h49 (o_mv rfl)) ?_
                      refine r_s (s_y rfl rfl h49 (o_callq ca29 rfl (hawthornlaw08_few.ok a1 r0 hr0))) ?_
                      refine r_s (s_y rfl rfl h49 (o_callq ca38 rfl (tiny_Tiny_Remove_n.ok r0 _ rfl))) ?_
                      refine r_s (s_y rfl rfl h49 (o_not rfl)) ?_
                      refine r_u (o_pt rfl h49 rfl) ?_
                      refine r_u (o_mv rfl) ?_
                      refine r_s (s_y rfl rfl (nbt h52) (o_mv rfl)) ?_
                      refine r_s (s_y rfl rfl (nbt h52) (o_mv rfl)) ?_
                      refine r_s (s_y rfl rfl (nbt h52) (o_callq ca29 rfl (hawthornlaw08_few.ok a1 r0 hr0))) ?_
                      refine r_s (s_y rfl rfl (nbt h52) (o_callq ca35 rfl (tiny_Tiny_Seen_n.ok r0 _ rfl))) ?_
                      refine r_s (s_y rfl rfl (nbt h52) (o_bin rfl rfl (bI_eq (tiny_Tiny_Seen_n r0) 0))) ?_
                      refine r_u (o_pt rfl (nbt h52) rfl) ?_
                      refine r_u (o_mv rfl) ?_
                      refine rl_ex (fun w h => st_peek 5 hy59 rfl w h) fun u103 hu103 => ?_
                      refine r_s (s_y rfl rfl h56 (o_ixA (sz := 1) Try.underlying64 (fun _ => by kernel_rfl) rfl rfl (gi_some hu103).1)) ?_
                      refine r_s (s_y rfl rfl h56 (o_ldA (o := 0) (n := 3) 4 sc23 rfl rfl hu103)) ?_
                      refine r_s (s_y rfl rfl h56 (o_lenK (kn_in 5 rfl hu103 hy59) Try.underlying23 rfl)) ?_
                      refine r_s (s_y rfl rfl h56 (o_bin rfl rfl (bI_eq (y59.length : Int) 0))) ?_
                      refine r_u (o_pt rfl h56 rfl) ?_
                      refine r_u (o_mv rfl) ?_
                      refine r_s (s_gt rfl rfl fun g => o_mv rfl) ?_
                      refine r_s (s_gt rfl rfl fun g => o_callq ca41 (evs1 (evg rfl g) evs0) (tiny_Tiny_Export_n.ok _ rfl)) ?_
                      refine r_s (s_gt rfl rfl fun g => o_bin (evg rfl g) rfl (bS_eq tiny_Tiny_Export_n [])) ?_
                      refine r_u (o_and rfl rfl) ?_
                      refine r_u (o_mv rfl) ?_
                      refine r_s (s_gt rfl rfl fun g => o_mv rfl) ?_
                      refine r_s (s_gt rfl rfl fun g => o_bin (evg rfl g) rfl (bI_eq r4.2 0)) ?_
                      refine r_s (s_gt rfl rfl fun g => o_mv rfl) ?_
                      refine r_s (s_gt rfl rfl fun g => o_bin (evg rfl g) rfl (bI_ge (iand a0 2047) 1)) ?_
                      refine r_s (s_gt rfl rfl fun g => o_mv (evg rfl g)) ?_
                      refine r_s (s_ggt rfl rfl fun g => o_mv rfl) ?_
                      refine r_s (s_ggt rfl rfl fun g => o_bin (evg rfl g) rfl (bI_le (iand a0 2047) 1000)) ?_
                      refine r_s (s_gt rfl rfl fun g => o_and (evg rfl g) (evg2 rfl g)) ?_
                      refine r_s (s_gt rfl rfl fun g => o_bin (evg rfl g) (evg rfl g) (bB_eq Try.underlying4 (r4.2 == 0) (decide (1 ≤ (iand a0 2047)) && decide ((iand a0 2047) ≤ 1000)))) ?_
                      refine r_u (o_and rfl rfl) ?_
                      refine r_u (o_mv rfl) ?_
                      refine r_s (s_gt rfl rfl fun g => o_mv rfl) ?_
                      refine r_s (s_gt rfl rfl fun g => o_bin (evg rfl g) rfl (bP_nep Try.underlying47)) ?_
                      refine r_s (s_gt rfl rfl fun g => o_mv rfl) ?_
                      refine r_s (s_gt rfl rfl fun g => o_bin (evg rfl g) rfl (bI_eq r4.2 0)) ?_
                      refine r_s (s_gt rfl rfl fun g => o_bin (evg rfl g) (evg rfl g) (bB_eq Try.underlying4 true (r4.2 == 0))) ?_
                      refine r_u (o_and rfl rfl) ?_
                      refine r_u (o_mv rfl) ?_
                      refine r_s (s_gt rfl rfl fun g => o_mv rfl) ?_
                      refine r_s (s_gt rfl rfl fun g => o_bin (evg rfl g) rfl (bI_eq r9.2 0)) ?_
                      refine r_u (o_and rfl rfl) ?_
                      refine r_u (o_mv rfl) ?_
                      refine r_s (s_gt rfl rfl fun g => o_mv rfl) ?_
                      refine r_s (s_gt rfl rfl fun g => o_lenO 7 Try.underlying23 (evg rfl g) rfl) ?_
                      refine r_s (s_gt rfl rfl fun g => o_bin (evg rfl g) rfl (bI_eq (p17.2.length : Int) 0)) ?_
                      refine r_u (o_and rfl rfl) ?_
                      refine r_u (o_mv rfl) ?_
                      refine r_s (s_gt rfl rfl fun g => o_mv rfl) ?_
                      refine r_s (s_gt rfl rfl fun g => o_callq ca31 (evs1 (evg rfl g) evs0) (tiny_Tiny_Len_n.ok _ rfl)) ?_
                      refine r_s (s_gt rfl rfl fun g => o_bin (evg rfl g) rfl (bI_eq tiny_Tiny_Len_n 0)) ?_
                      refine r_u (o_and rfl rfl) ?_
                      refine r_u (o_mv rfl) ?_
                      refine r_s (s_gt rfl rfl fun g => o_mv rfl) ?_
                      refine r_s (s_gt rfl rfl fun g => o_mv rfl) ?_
                      refine r_s (s_gt rfl rfl fun g => o_callq ca35 (evs1 (evg rfl g) (evs1 (evg rfl g) evs0)) (tiny_Tiny_Seen_n.ok l15 _ rfl)) ?_
                      refine r_s (s_gt rfl rfl fun g => o_bin (evg rfl g) rfl (bI_eq (tiny_Tiny_Seen_n l15) 0)) ?_
                      refine r_u (o_and rfl rfl) ?_
                      refine r_u (o_as rfl) ?_
                      refine r_nil ?_
                      refine x_seq ?_
                      refine c_ret ?_
                      obtain rfl := Option.some.inj hm77
                      refine ex_st (fun _ h => st_pk 8 [] (by decide) h) ?_
                      exact x_r1 rfl (rv_t rfl) (Le.refl _) ⟨_, rfl, rfl, rfl, rfl⟩
                    · rintro rfl
                      have hm77 := om_s hm65 ho76
                      clear hm65
                      obtain ⟨⟨pv79, g80⟩, ⟨pv82, g83⟩⟩ := g28
                      refine cd_st (fun _ h => st_star_o h) ?_
                      refine cd_by (((((((y59.length : Int) == 0) && (tiny_Tiny_Export_n == [])) && ((r4.2 == 0) == (decide (1 ≤ (iand a0 2047)) && decide ((iand a0 2047) ≤ 1000)))) && (true == (r4.2 == 0))) && (r9.2 == 0)) && ((p17.2.length : Int) == 0)) (fun h86 => ?_) fun h86 => ?_
                      · have hm87 := ift hm77 h86
                        clear hm77
                        obtain ⟨r90, hr90, hm91⟩ := bs hm87
                        clear hm87
                        refine cd_by (r90 == 0) (fun h92 => ?_) fun h92 => ?_
                        · have hm93 := ift hm91 h92
                          clear hm91
                          refine c_reg ?_
                          refine r_u (o_callq ca28 rfl (hawthornlaw08_awake.ok r36 hr36)) ?_
                          refine r_u (o_mv rfl) ?_
                          refine r_s (s_gt rfl rfl fun g => o_mv rfl) ?_
                          refine r_s (s_gt rfl rfl fun g => o_not (evg rfl g)) ?_
                          refine r_u (o_and rfl rfl) ?_
                          refine r_u (o_mv rfl) ?_
                          refine r_s (s_y rfl rfl h38 (o_mv rfl)) ?_
                          refine r_s (s_y rfl rfl h38 (o_mv rfl)) ?_
                          refine r_s (s_y rfl rfl h38 (o_callq ca29 rfl (hawthornlaw08_few.ok a1 r0 hr0))) ?_
                          refine r_s (s_y rfl rfl h38 (o_callq ca32 rfl (tiny_Tiny_Has_n.ok r0 _ rfl))) ?_
                          refine r_s (s_y rfl rfl h38 (o_not rfl)) ?_
                          refine r_u (o_pt rfl h38 rfl) ?_
                          refine r_u (o_mv rfl) ?_
                          refine r_s (s_gt rfl rfl fun g => o_mv rfl) ?_
                          refine r_s (s_gt rfl rfl fun g => o_callq ca31 (evs1 (evg rfl g) evs0) (tiny_Tiny_Len_n.ok _ rfl)) ?_
                          refine r_s (s_gt rfl rfl fun g => o_bin (evg rfl g) rfl (bI_eq tiny_Tiny_Len_n 0)) ?_
                          refine r_u (o_and rfl rfl) ?_
                          refine r_u (o_mv rfl) ?_
                          refine r_s (s_y rfl rfl h40 (o_mv rfl)) ?_
                          refine r_s (s_y rfl rfl h40 (o_mv rfl)) ?_
                          refine r_s (s_y rfl rfl h40 (o_callq ca29 rfl (hawthornlaw08_few.ok a1 r0 hr0))) ?_
                          refine r_s (s_y rfl rfl h40 (o_callq ca34 rfl (tiny_Tiny_Touch_n.ok r0 r42 hr42))) ?_
                          refine r_s (s_y rfl rfl h40 (o_not rfl)) ?_
                          refine r_u (o_pt rfl h40 rfl) ?_
                          refine r_u (o_mv rfl) ?_
                          refine r_s (s_y rfl rfl (nbt h44) (o_mv rfl)) ?_
                          refine r_s (s_y rfl rfl (nbt h44) (o_mv rfl)) ?_
                          refine r_s (s_y rfl rfl (nbt h44) (o_callq ca29 rfl (hawthornlaw08_few.ok a1 r0 hr0))) ?_
                          refine r_sw (s_yw rfl rfl (nbt h44) (o_call ca30 rfl (tiny_Tiny_Insert_n.ok r0 r46 hr46))) ?_
                          rintro v94 R _ _ ⟨_, rfl, rfl, rfl⟩
                          refine r_s (s_y rfl rfl (nbt h44) (o_lenO 0 Try.underlying23 rfl rfl)) ?_
                          refine r_s (s_y rfl rfl (nbt h44) (o_bin rfl rfl (bI_eq (r46.length : Int) 0))) ?_
                          refine r_u (o_pt rfl (nbt h44) rfl) ?_
                          refine r_u (o_mv rfl) ?_
                          refine r_s (s_y rfl rfl h49 (o_mv rfl)) ?_
                          refine r_s (s_y rfl rfl h49 (o_mv rfl)) ?_
                          refine r_s (s_y rfl rfl h49 (o_callq ca29 rfl (hawthornlaw08_few.ok a1 r0 hr0))) ?_
                          refine r_s (s_y rfl rfl h49 (o_callq ca38 rfl (tiny_Tiny_Remove_n.ok r0 _ rfl))) ?_
                          refine r_s (s_y rfl rfl h49 (o_not rfl)) ?_
                          refine r_u (o_pt rfl h49 rfl) ?_
                          refine r_u (o_mv rfl) ?_
                          refine r_s (s_y rfl rfl (nbt h52) (o_mv rfl)) ?_
                          refine r_s (s_y rfl rfl (nbt h52) (o_mv rfl)) ?_
                          refine r_s (s_y rfl rfl (nbt h52) (o_callq ca29 rfl (hawthornlaw08_few.ok a1 r0 hr0))) ?_
                          refine r_s (s_y rfl rfl (nbt h52) (o_callq ca35 rfl (tiny_Tiny_Seen_n.ok r0 _ rfl))) ?_
                          refine r_s (s_y rfl rfl (nbt h52) (o_bin rfl rfl (bI_eq (tiny_Tiny_Seen_n r0) 0))) ?_
                          refine r_u (o_pt rfl (nbt h52) rfl) ?_
                          refine r_u (o_mv rfl) ?_
                          refine rl_ex (fun w h => st_peek 8 hy59 rfl w h) fun u95 hu95 => ?_
                          refine r_s (s_y rfl rfl h56 (o_ixA (sz := 1) Try.underlying64 (fun _ => by kernel_rfl) rfl rfl (gi_some hu95).1)) ?_
                          refine r_s (s_y rfl rfl h56 (o_ldA (o := 0) (n := 3) 7 sc23 rfl rfl hu95)) ?_
                          refine r_s (s_y rfl rfl h56 (o_lenK (kn_in 8 rfl hu95 hy59) Try.underlying23 rfl)) ?_
                          refine r_s (s_y rfl rfl h56 (o_bin rfl rfl (bI_eq (y59.length : Int) 0))) ?_
                          refine r_u (o_pt rfl h56 rfl) ?_
                          refine r_u (o_mv rfl) ?_
                          refine r_s (s_gt rfl rfl fun g => o_mv rfl) ?_
                          refine r_s (s_gt rfl rfl fun g => o_callq ca41 (evs1 (evg rfl g) evs0) (tiny_Tiny_Export_n.ok _ rfl)) ?_
                          refine r_s (s_gt rfl rfl fun g => o_bin (evg rfl g) rfl (bS_eq tiny_Tiny_Export_n [])) ?_
                          refine r_u (o_and rfl rfl) ?_
                          refine r_u (o_mv rfl) ?_
                          refine r_s (s_gt rfl rfl fun g => o_mv rfl) ?_
                          refine r_s (s_gt rfl rfl fun g => o_bin (evg rfl g) rfl (bI_eq r4.2 0)) ?_
                          refine r_s (s_gt rfl rfl fun g => o_mv rfl) ?_
                          refine r_s (s_gt rfl rfl fun g => o_bin (evg rfl g) rfl (bI_ge (iand a0 2047) 1)) ?_
                          refine r_s (s_gt rfl rfl fun g => o_mv (evg rfl g)) ?_
                          refine r_s (s_ggt rfl rfl fun g => o_mv rfl) ?_
                          refine r_s (s_ggt rfl rfl fun g => o_bin (evg rfl g) rfl (bI_le (iand a0 2047) 1000)) ?_
                          refine r_s (s_gt rfl rfl fun g => o_and (evg rfl g) (evg2 rfl g)) ?_
                          refine r_s (s_gt rfl rfl fun g => o_bin (evg rfl g) (evg rfl g) (bB_eq Try.underlying4 (r4.2 == 0) (decide (1 ≤ (iand a0 2047)) && decide ((iand a0 2047) ≤ 1000)))) ?_
                          refine r_u (o_and rfl rfl) ?_
                          refine r_u (o_mv rfl) ?_
                          refine r_s (s_gt rfl rfl fun g => o_mv rfl) ?_
                          refine r_s (s_gt rfl rfl fun g => o_bin (evg rfl g) rfl (bP_nep Try.underlying47)) ?_
                          refine r_s (s_gt rfl rfl fun g => o_mv rfl) ?_
                          refine r_s (s_gt rfl rfl fun g => o_bin (evg rfl g) rfl (bI_eq r4.2 0)) ?_
                          refine r_s (s_gt rfl rfl fun g => o_bin (evg rfl g) (evg rfl g) (bB_eq Try.underlying4 true (r4.2 == 0))) ?_
                          refine r_u (o_and rfl rfl) ?_
                          refine r_u (o_mv rfl) ?_
                          refine r_s (s_gt rfl rfl fun g => o_mv rfl) ?_
                          refine r_s (s_gt rfl rfl fun g => o_bin (evg rfl g) rfl (bI_eq r9.2 0)) ?_
                          refine r_u (o_and rfl rfl) ?_
                          refine r_u (o_mv rfl) ?_
                          refine r_s (s_gt rfl rfl fun g => o_mv rfl) ?_
                          refine r_s (s_gt rfl rfl fun g => o_lenO 10 Try.underlying23 (evg rfl g) rfl) ?_
                          refine r_s (s_gt rfl rfl fun g => o_bin (evg rfl g) rfl (bI_eq (p17.2.length : Int) 0)) ?_
                          refine r_u (o_and rfl rfl) ?_
                          refine r_u (o_mv rfl) ?_
                          refine r_s (s_y rfl rfl h86 (o_mv rfl)) ?_
                          refine rl_st (fun _ h => st_pk 11 [1, 2, 3, 0, 4, 5, 6, 7, 8, 9, 10] (by decide) h) ?_
                          refine r_c (s_yw rfl rfl h86 (o_call ca31 rfl (tiny_Tiny_Len.ok b75 x74 (⟨(pv79, g80), (pv82, g83)⟩ : tiny_Tiny.G) r90 hr90))) ?_
                          refine r_s (s_y rfl rfl h86 (o_bin rfl rfl (bI_eq r90 0))) ?_
                          refine r_u (o_pt rfl h86 rfl) ?_
                          refine r_u (o_mv rfl) ?_
                          refine r_s (s_y rfl rfl h92 (o_mv rfl)) ?_
                          refine r_s (s_y rfl rfl h92 (o_mv rfl)) ?_
                          obtain ⟨r96, hr96, hm97⟩ := bs hm93
                          clear hm93
                          refine r_c (s_yw rfl rfl h92 (o_call ca35 rfl (tiny_Tiny_Seen.ok b75 x74 (⟨(pv79, g80), (pv82, g83)⟩ : tiny_Tiny.G) l15 r96 hr96))) ?_
                          refine r_s (s_y rfl rfl h92 (o_bin rfl rfl (bI_eq r96 0))) ?_
                          refine r_u (o_pt rfl h92 rfl) ?_
                          refine r_u (o_as rfl) ?_
                          refine r_nil ?_
                          refine x_seq ?_
                          refine c_ret ?_
                          obtain rfl := Option.some.inj hm97
                          refine ex_st (fun _ h => st_pk 11 [] (by decide) h) ?_
                          exact x_r1 rfl (rv_t rfl) (Le.refl _) ⟨_, rfl, rfl, rfl, rfl⟩
                        · have hm93 := iff_ hm91 h92
                          clear hm91
                          refine c_reg ?_
                          refine r_u (o_callq ca28 rfl (hawthornlaw08_awake.ok r36 hr36)) ?_
                          refine r_u (o_mv rfl) ?_
                          refine r_s (s_gt rfl rfl fun g => o_mv rfl) ?_
                          refine r_s (s_gt rfl rfl fun g => o_not (evg rfl g)) ?_
                          refine r_u (o_and rfl rfl) ?_
                          refine r_u (o_mv rfl) ?_
                          refine r_s (s_y rfl rfl h38 (o_mv rfl)) ?_
                          refine r_s (s_y rfl rfl h38 (o_mv rfl)) ?_
                          refine r_s (s_y rfl rfl h38 (o_callq ca29 rfl (hawthornlaw08_few.ok a1 r0 hr0))) ?_
                          refine r_s (s_y rfl rfl h38 (o_callq ca32 rfl (tiny_Tiny_Has_n.ok r0 _ rfl))) ?_
                          refine r_s (s_y rfl rfl h38 (o_not rfl)) ?_
                          refine r_u (o_pt rfl h38 rfl) ?_
                          refine r_u (o_mv rfl) ?_
                          refine r_s (s_gt rfl rfl fun g => o_mv rfl) ?_
                          refine r_s (s_gt rfl rfl fun g => o_callq ca31 (evs1 (evg rfl g) evs0) (tiny_Tiny_Len_n.ok _ rfl)) ?_
                          refine r_s (s_gt rfl rfl fun g => o_bin (evg rfl g) rfl (bI_eq tiny_Tiny_Len_n 0)) ?_
                          refine r_u (o_and rfl rfl) ?_
                          refine r_u (o_mv rfl) ?_
                          refine r_s (s_y rfl rfl h40 (o_mv rfl)) ?_
                          refine r_s (s_y rfl rfl h40 (o_mv rfl)) ?_
                          refine r_s (s_y rfl rfl h40 (o_callq ca29 rfl (hawthornlaw08_few.ok a1 r0 hr0))) ?_
                          refine r_s (s_y rfl rfl h40 (o_callq ca34 rfl (tiny_Tiny_Touch_n.ok r0 r42 hr42))) ?_
                          refine r_s (s_y rfl rfl h40 (o_not rfl)) ?_
                          refine r_u (o_pt rfl h40 rfl) ?_
                          refine r_u (o_mv rfl) ?_
                          refine r_s (s_y rfl rfl (nbt h44) (o_mv rfl)) ?_
                          refine r_s (s_y rfl rfl (nbt h44) (o_mv rfl)) ?_
                          refine r_s (s_y rfl rfl (nbt h44) (o_callq ca29 rfl (hawthornlaw08_few.ok a1 r0 hr0))) ?_
                          refine r_sw (s_yw rfl rfl (nbt h44) (o_call ca30 rfl (tiny_Tiny_Insert_n.ok r0 r46 hr46))) ?_
                          rintro v98 R _ _ ⟨_, rfl, rfl, rfl⟩
                          refine r_s (s_y rfl rfl (nbt h44) (o_lenO 0 Try.underlying23 rfl rfl)) ?_
                          refine r_s (s_y rfl rfl (nbt h44) (o_bin rfl rfl (bI_eq (r46.length : Int) 0))) ?_
                          refine r_u (o_pt rfl (nbt h44) rfl) ?_
                          refine r_u (o_mv rfl) ?_
                          refine r_s (s_y rfl rfl h49 (o_mv rfl)) ?_
                          refine r_s (s_y rfl rfl h49 (o_mv rfl)) ?_
                          refine r_s (s_y rfl rfl h49 (o_callq ca29 rfl (hawthornlaw08_few.ok a1 r0 hr0))) ?_
                          refine r_s (s_y rfl rfl h49 (o_callq ca38 rfl (tiny_Tiny_Remove_n.ok r0 _ rfl))) ?_
                          refine r_s (s_y rfl rfl h49 (o_not rfl)) ?_
                          refine r_u (o_pt rfl h49 rfl) ?_
                          refine r_u (o_mv rfl) ?_
                          refine r_s (s_y rfl rfl (nbt h52) (o_mv rfl)) ?_
                          refine r_s (s_y rfl rfl (nbt h52) (o_mv rfl)) ?_
                          refine r_s (s_y rfl rfl (nbt h52) (o_callq ca29 rfl (hawthornlaw08_few.ok a1 r0 hr0))) ?_
                          refine r_s (s_y rfl rfl (nbt h52) (o_callq ca35 rfl (tiny_Tiny_Seen_n.ok r0 _ rfl))) ?_
                          refine r_s (s_y rfl rfl (nbt h52) (o_bin rfl rfl (bI_eq (tiny_Tiny_Seen_n r0) 0))) ?_
                          refine r_u (o_pt rfl (nbt h52) rfl) ?_
                          refine r_u (o_mv rfl) ?_
                          refine rl_ex (fun w h => st_peek 8 hy59 rfl w h) fun u99 hu99 => ?_
                          refine r_s (s_y rfl rfl h56 (o_ixA (sz := 1) Try.underlying64 (fun _ => by kernel_rfl) rfl rfl (gi_some hu99).1)) ?_
                          refine r_s (s_y rfl rfl h56 (o_ldA (o := 0) (n := 3) 7 sc23 rfl rfl hu99)) ?_
                          refine r_s (s_y rfl rfl h56 (o_lenK (kn_in 8 rfl hu99 hy59) Try.underlying23 rfl)) ?_
                          refine r_s (s_y rfl rfl h56 (o_bin rfl rfl (bI_eq (y59.length : Int) 0))) ?_
                          refine r_u (o_pt rfl h56 rfl) ?_
                          refine r_u (o_mv rfl) ?_
                          refine r_s (s_gt rfl rfl fun g => o_mv rfl) ?_
                          refine r_s (s_gt rfl rfl fun g => o_callq ca41 (evs1 (evg rfl g) evs0) (tiny_Tiny_Export_n.ok _ rfl)) ?_
                          refine r_s (s_gt rfl rfl fun g => o_bin (evg rfl g) rfl (bS_eq tiny_Tiny_Export_n [])) ?_
                          refine r_u (o_and rfl rfl) ?_
                          refine r_u (o_mv rfl) ?_
                          refine r_s (s_gt rfl rfl fun g => o_mv rfl) ?_
                          refine r_s (s_gt rfl rfl fun g => o_bin (evg rfl g) rfl (bI_eq r4.2 0)) ?_
                          refine r_s (s_gt rfl rfl fun g => o_mv rfl) ?_
                          refine r_s (s_gt rfl rfl fun g => o_bin (evg rfl g) rfl (bI_ge (iand a0 2047) 1)) ?_
                          refine r_s (s_gt rfl rfl fun g => o_mv (evg rfl g)) ?_
                          refine r_s (s_ggt rfl rfl fun g => o_mv rfl) ?_
                          refine r_s (s_ggt rfl rfl fun g => o_bin (evg rfl g) rfl (bI_le (iand a0 2047) 1000)) ?_
                          refine r_s (s_gt rfl rfl fun g => o_and (evg rfl g) (evg2 rfl g)) ?_
                          refine r_s (s_gt rfl rfl fun g => o_bin (evg rfl g) (evg rfl g) (bB_eq Try.underlying4 (r4.2 == 0) (decide (1 ≤ (iand a0 2047)) && decide ((iand a0 2047) ≤ 1000)))) ?_
                          refine r_u (o_and rfl rfl) ?_
                          refine r_u (o_mv rfl) ?_
                          refine r_s (s_gt rfl rfl fun g => o_mv rfl) ?_
                          refine r_s (s_gt rfl rfl fun g => o_bin (evg rfl g) rfl (bP_nep Try.underlying47)) ?_
                          refine r_s (s_gt rfl rfl fun g => o_mv rfl) ?_
                          refine r_s (s_gt rfl rfl fun g => o_bin (evg rfl g) rfl (bI_eq r4.2 0)) ?_
                          refine r_s (s_gt rfl rfl fun g => o_bin (evg rfl g) (evg rfl g) (bB_eq Try.underlying4 true (r4.2 == 0))) ?_
                          refine r_u (o_and rfl rfl) ?_
                          refine r_u (o_mv rfl) ?_
                          refine r_s (s_gt rfl rfl fun g => o_mv rfl) ?_
                          refine r_s (s_gt rfl rfl fun g => o_bin (evg rfl g) rfl (bI_eq r9.2 0)) ?_
                          refine r_u (o_and rfl rfl) ?_
                          refine r_u (o_mv rfl) ?_
                          refine r_s (s_gt rfl rfl fun g => o_mv rfl) ?_
                          refine r_s (s_gt rfl rfl fun g => o_lenO 10 Try.underlying23 (evg rfl g) rfl) ?_
                          refine r_s (s_gt rfl rfl fun g => o_bin (evg rfl g) rfl (bI_eq (p17.2.length : Int) 0)) ?_
                          refine r_u (o_and rfl rfl) ?_
                          refine r_u (o_mv rfl) ?_
                          refine r_s (s_y rfl rfl h86 (o_mv rfl)) ?_
                          refine rl_st (fun _ h => st_pk 11 [1, 2, 3, 0, 4, 5, 6, 7, 8, 9, 10] (by decide) h) ?_
                          refine r_c (s_yw rfl rfl h86 (o_call ca31 rfl (tiny_Tiny_Len.ok b75 x74 (⟨(pv79, g80), (pv82, g83)⟩ : tiny_Tiny.G) r90 hr90))) ?_
                          refine r_s (s_y rfl rfl h86 (o_bin rfl rfl (bI_eq r90 0))) ?_
                          refine r_u (o_pt rfl h86 rfl) ?_
                          refine r_u (o_mv rfl) ?_
                          refine r_s (s_n rfl rfl h92) ?_
                          refine r_s (s_n rfl rfl h92) ?_
                          refine r_s (s_n rfl rfl h92) ?_
                          refine r_s (s_n rfl rfl h92) ?_
                          refine r_u (o_pf rfl h92 rfl) ?_
                          refine r_u (o_as rfl) ?_
                          refine r_nil ?_
                          refine x_seq ?_
                          refine c_ret ?_
                          obtain rfl := Option.some.inj hm93
                          refine ex_st (fun _ h => st_pk 11 [] (by decide) h) ?_
                          exact x_r1 rfl (rv_t rfl) (Le.refl _) ⟨_, rfl, rfl, rfl, rfl⟩
                      · have hm87 := iff_ hm77 h86
                        clear hm77
                        refine c_reg ?_
                        refine r_u (o_callq ca28 rfl (hawthornlaw08_awake.ok r36 hr36)) ?_
                        refine r_u (o_mv rfl) ?_
                        refine r_s (s_gt rfl rfl fun g => o_mv rfl) ?_
                        refine r_s (s_gt rfl rfl fun g => o_not (evg rfl g)) ?_
                        refine r_u (o_and rfl rfl) ?_
                        refine r_u (o_mv rfl) ?_
                        refine r_s (s_y rfl rfl h38 (o_mv rfl)) ?_
                        refine r_s (s_y rfl rfl h38 (o_mv rfl)) ?_
                        refine r_s (s_y rfl rfl h38 (o_callq ca29 rfl (hawthornlaw08_few.ok a1 r0 hr0))) ?_
                        refine r_s (s_y rfl rfl h38 (o_callq ca32 rfl (tiny_Tiny_Has_n.ok r0 _ rfl))) ?_
                        refine r_s (s_y rfl rfl h38 (o_not rfl)) ?_
                        refine r_u (o_pt rfl h38 rfl) ?_
                        refine r_u (o_mv rfl) ?_
                        refine r_s (s_gt rfl rfl fun g => o_mv rfl) ?_
                        refine r_s (s_gt rfl rfl fun g => o_callq ca31 (evs1 (evg rfl g) evs0) (tiny_Tiny_Len_n.ok _ rfl)) ?_
                        refine r_s (s_gt rfl rfl fun g => o_bin (evg rfl g) rfl (bI_eq tiny_Tiny_Len_n 0)) ?_
                        refine r_u (o_and rfl rfl) ?_
                        refine r_u (o_mv rfl) ?_
                        refine r_s (s_y rfl rfl h40 (o_mv rfl)) ?_
                        refine r_s (s_y rfl rfl h40 (o_mv rfl)) ?_
                        refine r_s (s_y rfl rfl h40 (o_callq ca29 rfl (hawthornlaw08_few.ok a1 r0 hr0))) ?_
                        refine r_s (s_y rfl rfl h40 (o_callq ca34 rfl (tiny_Tiny_Touch_n.ok r0 r42 hr42))) ?_
                        refine r_s (s_y rfl rfl h40 (o_not rfl)) ?_
                        refine r_u (o_pt rfl h40 rfl) ?_
                        refine r_u (o_mv rfl) ?_
                        refine r_s (s_y rfl rfl (nbt h44) (o_mv rfl)) ?_
                        refine r_s (s_y rfl rfl (nbt h44) (o_mv rfl)) ?_
                        refine r_s (s_y rfl rfl (nbt h44) (o_callq ca29 rfl (hawthornlaw08_few.ok a1 r0 hr0))) ?_
                        refine r_sw (s_yw rfl rfl (nbt h44) (o_call ca30 rfl (tiny_Tiny_Insert_n.ok r0 r46 hr46))) ?_
                        rintro v100 R _ _ ⟨_, rfl, rfl, rfl⟩
                        refine r_s (s_y rfl rfl (nbt h44) (o_lenO 0 Try.underlying23 rfl rfl)) ?_
                        refine r_s (s_y rfl rfl (nbt h44) (o_bin rfl rfl (bI_eq (r46.length : Int) 0))) ?_
                        refine r_u (o_pt rfl (nbt h44) rfl) ?_
                        refine r_u (o_mv rfl) ?_
                        refine r_s (s_y rfl rfl h49 (o_mv rfl)) ?_
                        refine r_s (s_y rfl rfl h49 (o_mv rfl)) ?_
                        refine r_s (s_y rfl rfl h49 (o_callq ca29 rfl (hawthornlaw08_few.ok a1 r0 hr0))) ?_
                        refine r_s (s_y rfl rfl h49 (o_callq ca38 rfl (tiny_Tiny_Remove_n.ok r0 _ rfl))) ?_
                        refine r_s (s_y rfl rfl h49 (o_not rfl)) ?_
                        refine r_u (o_pt rfl h49 rfl) ?_
                        refine r_u (o_mv rfl) ?_
                        refine r_s (s_y rfl rfl (nbt h52) (o_mv rfl)) ?_
                        refine r_s (s_y rfl rfl (nbt h52) (o_mv rfl)) ?_
                        refine r_s (s_y rfl rfl (nbt h52) (o_callq ca29 rfl (hawthornlaw08_few.ok a1 r0 hr0))) ?_
                        refine r_s (s_y rfl rfl (nbt h52) (o_callq ca35 rfl (tiny_Tiny_Seen_n.ok r0 _ rfl))) ?_
                        refine r_s (s_y rfl rfl (nbt h52) (o_bin rfl rfl (bI_eq (tiny_Tiny_Seen_n r0) 0))) ?_
                        refine r_u (o_pt rfl (nbt h52) rfl) ?_
                        refine r_u (o_mv rfl) ?_
                        refine rl_ex (fun w h => st_peek 8 hy59 rfl w h) fun u101 hu101 => ?_
                        refine r_s (s_y rfl rfl h56 (o_ixA (sz := 1) Try.underlying64 (fun _ => by kernel_rfl) rfl rfl (gi_some hu101).1)) ?_
                        refine r_s (s_y rfl rfl h56 (o_ldA (o := 0) (n := 3) 7 sc23 rfl rfl hu101)) ?_
                        refine r_s (s_y rfl rfl h56 (o_lenK (kn_in 8 rfl hu101 hy59) Try.underlying23 rfl)) ?_
                        refine r_s (s_y rfl rfl h56 (o_bin rfl rfl (bI_eq (y59.length : Int) 0))) ?_
                        refine r_u (o_pt rfl h56 rfl) ?_
                        refine r_u (o_mv rfl) ?_
                        refine r_s (s_gt rfl rfl fun g => o_mv rfl) ?_
                        refine r_s (s_gt rfl rfl fun g => o_callq ca41 (evs1 (evg rfl g) evs0) (tiny_Tiny_Export_n.ok _ rfl)) ?_
                        refine r_s (s_gt rfl rfl fun g => o_bin (evg rfl g) rfl (bS_eq tiny_Tiny_Export_n [])) ?_
                        refine r_u (o_and rfl rfl) ?_
                        refine r_u (o_mv rfl) ?_
                        refine r_s (s_gt rfl rfl fun g => o_mv rfl) ?_
                        refine r_s (s_gt rfl rfl fun g => o_bin (evg rfl g) rfl (bI_eq r4.2 0)) ?_
                        refine r_s (s_gt rfl rfl fun g => o_mv rfl) ?_
                        refine r_s (s_gt rfl rfl fun g => o_bin (evg rfl g) rfl (bI_ge (iand a0 2047) 1)) ?_
                        refine r_s (s_gt rfl rfl fun g => o_mv (evg rfl g)) ?_
                        refine r_s (s_ggt rfl rfl fun g => o_mv rfl) ?_
                        refine r_s (s_ggt rfl rfl fun g => o_bin (evg rfl g) rfl (bI_le (iand a0 2047) 1000)) ?_
                        refine r_s (s_gt rfl rfl fun g => o_and (evg rfl g) (evg2 rfl g)) ?_
                        refine r_s (s_gt rfl rfl fun g => o_bin (evg rfl g) (evg rfl g) (bB_eq Try.underlying4 (r4.2 == 0) (decide (1 ≤ (iand a0 2047)) && decide ((iand a0 2047) ≤ 1000)))) ?_
                        refine r_u (o_and rfl rfl) ?_
                        refine r_u (o_mv rfl) ?_
                        refine r_s (s_gt rfl rfl fun g => o_mv rfl) ?_
                        refine r_s (s_gt rfl rfl fun g => o_bin (evg rfl g) rfl (bP_nep Try.underlying47)) ?_
                        refine r_s (s_gt rfl rfl fun g => o_mv rfl) ?_
                        refine r_s (s_gt rfl rfl fun g => o_bin (evg rfl g) rfl (bI_eq r4.2 0)) ?_
                        refine r_s (s_gt rfl rfl fun g => o_bin (evg rfl g) (evg rfl g) (bB_eq Try.underlying4 true (r4.2 == 0))) ?_
                        refine r_u (o_and rfl rfl) ?_
                        refine r_u (o_mv rfl) ?_
                        refine r_s (s_gt rfl rfl fun g => o_mv rfl) ?_
                        refine r_s (s_gt rfl rfl fun g => o_bin (evg rfl g) rfl (bI_eq r9.2 0)) ?_
                        refine r_u (o_and rfl rfl) ?_
                        refine r_u (o_mv rfl) ?_
                        refine r_s (s_gt rfl rfl fun g => o_mv rfl) ?_
                        refine r_s (s_gt rfl rfl fun g => o_lenO 10 Try.underlying23 (evg rfl g) rfl) ?_
                        refine r_s (s_gt rfl rfl fun g => o_bin (evg rfl g) rfl (bI_eq (p17.2.length : Int) 0)) ?_
                        refine r_u (o_and rfl rfl) ?_
                        refine r_u (o_mv rfl) ?_
                        refine r_s (s_n rfl rfl h86) ?_
                        refine r_s (s_n rfl rfl h86) ?_
                        refine r_s (s_n rfl rfl h86) ?_
                        refine r_u (o_pf rfl h86 rfl) ?_
                        refine r_u (o_mv rfl) ?_
                        refine r_s (s_n rfl rfl rfl) ?_
                        refine r_s (s_n rfl rfl rfl) ?_
                        refine r_s (s_n rfl rfl rfl) ?_
                        refine r_s (s_n rfl rfl rfl) ?_
                        refine r_u (o_pf rfl rfl rfl) ?_
                        refine r_u (o_as rfl) ?_
                        refine r_nil ?_
                        refine x_seq ?_
                        refine c_ret ?_
                        obtain rfl := Option.some.inj hm87
                        refine ex_st (fun _ h => st_pk 11 [] (by decide) h) ?_
                        exact x_r1 rfl (rv_t rfl) (Le.refl _) ⟨_, rfl, rfl, rfl, rfl⟩
                · have hm57 := iff_ hm53 h56
                  clear hm53
                  refine c_reg ?_
                  refine r_u (o_callq ca28 rfl (hawthornlaw08_awake.ok r36 hr36)) ?_
                  refine r_u (o_mv rfl) ?_
                  refine r_s (s_gt rfl rfl fun g => o_mv rfl) ?_
                  refine r_s (s_gt rfl rfl fun g => o_not (evg rfl g)) ?_
                  refine r_u (o_and rfl rfl) ?_
                  refine r_u (o_mv rfl) ?_
                  refine r_s (s_y rfl rfl h38 (o_mv rfl)) ?_
                  refine r_s (s_y rfl rfl h38 (o_mv rfl)) ?_
                  refine r_s (s_y rfl rfl h38 (o_callq ca29 rfl (hawthornlaw08_few.ok a1 r0 hr0))) ?_
                  refine r_s (s_y rfl rfl h38 (o_callq ca32 rfl (tiny_Tiny_Has_n.ok r0 _ rfl))) ?_
                  refine r_s (s_y rfl rfl h38 (o_not rfl)) ?_
                  refine r_u (o_pt rfl h38 rfl) ?_
                  refine r_u (o_mv rfl) ?_
                  refine r_s (s_gt rfl rfl fun g => o_mv rfl) ?_
                  refine r_s (s_gt rfl rfl fun g => o_callq ca31 (evs1 (evg rfl g) evs0) (tiny_Tiny_Len_n.ok _ rfl)) ?_
                  refine r_s (s_gt rfl rfl fun g => o_bin (evg rfl g) rfl (bI_eq tiny_Tiny_Len_n 0)) ?_
                  refine r_u (o_and rfl rfl) ?_
                  refine r_u (o_mv rfl) ?_
                  refine r_s (s_y rfl rfl h40 (o_mv rfl)) ?_
                  refine r_s (s_y rfl rfl h40 (o_mv rfl)) ?_
                  refine r_s (s_y rfl rfl h40 (o_callq ca29 rfl (hawthornlaw08_few.ok a1 r0 hr0))) ?_
                  refine r_s (s_y rfl rfl h40 (o_callq ca34 rfl (tiny_Tiny_Touch_n.ok r0 r42 hr42))) ?_
                  refine r_s (s_y rfl rfl h40 (o_not rfl)) ?_
                  refine r_u (o_pt rfl h40 rfl) ?_
                  refine r_u (o_mv rfl) ?_
                  refine r_s (s_y rfl rfl (nbt h44) (o_mv rfl)) ?_
                  refine r_s (s_y rfl rfl (nbt h44) (o_mv rfl)) ?_
                  refine r_s (s_y rfl rfl (nbt h44) (o_callq ca29 rfl (hawthornlaw08_few.ok a1 r0 hr0))) ?_
                  refine r_sw (s_yw rfl rfl (nbt h44) (o_call ca30 rfl (tiny_Tiny_Insert_n.ok r0 r46 hr46))) ?_
                  rintro v136 R _ _ ⟨_, rfl, rfl, rfl⟩
                  refine r_s (s_y rfl rfl (nbt h44) (o_lenO 0 Try.underlying23 rfl rfl)) ?_
                  refine r_s (s_y rfl rfl (nbt h44) (o_bin rfl rfl (bI_eq (r46.length : Int) 0))) ?_
                  refine r_u (o_pt rfl (nbt h44) rfl) ?_
                  refine r_u (o_mv rfl) ?_
                  refine r_s (s_y rfl rfl h49 (o_mv rfl)) ?_
                  refine r_s (s_y rfl rfl h49 (o_mv rfl)) ?_
                  refine r_s (s_y rfl rfl h49 (o_callq ca29 rfl (hawthornlaw08_few.ok a1 r0 hr0))) ?_
                  refine r_s (s_y rfl rfl h49 (o_callq ca38 rfl (tiny_Tiny_Remove_n.ok r0 _ rfl))) ?_
                  refine r_s (s_y rfl rfl h49 (o_not rfl)) ?_
                  refine r_u (o_pt rfl h49 rfl) ?_
                  refine r_u (o_mv rfl) ?_
                  refine r_s (s_y rfl rfl (nbt h52) (o_mv rfl)) ?_
                  refine r_s (s_y rfl rfl (nbt h52) (o_mv rfl)) ?_
                  refine r_s (s_y rfl rfl (nbt h52) (o_callq ca29 rfl (hawthornlaw08_few.ok a1 r0 hr0))) ?_
                  refine r_s (s_y rfl rfl (nbt h52) (o_callq ca35 rfl (tiny_Tiny_Seen_n.ok r0 _ rfl))) ?_
                  refine r_s (s_y rfl rfl (nbt h52) (o_bin rfl rfl (bI_eq (tiny_Tiny_Seen_n r0) 0))) ?_
                  refine r_u (o_pt rfl (nbt h52) rfl) ?_
                  refine r_u (o_mv rfl) ?_
                  refine r_s (s_n rfl rfl h56) ?_
                  refine r_s (s_n rfl rfl h56) ?_
                  refine r_s (s_n rfl rfl h56) ?_
                  refine r_s (s_n rfl rfl h56) ?_
                  refine r_u (o_pf rfl h56 rfl) ?_
                  refine r_u (o_mv rfl) ?_
                  refine r_s (s_n rfl rfl rfl) ?_
                  refine r_s (s_n rfl rfl rfl) ?_
                  refine r_s (s_n rfl rfl rfl) ?_
                  refine r_u (o_pf rfl rfl rfl) ?_
                  refine r_u (o_mv rfl) ?_
                  refine r_s (s_n rfl rfl rfl) ?_
                  refine r_s (s_n rfl rfl rfl) ?_
                  refine r_s (s_n rfl rfl rfl) ?_
                  refine r_s (s_n rfl rfl rfl) ?_
                  refine r_s (s_n rfl rfl rfl) ?_
                  refine r_s (s_nu rfl rfl) ?_
                  refine r_s (s_nu rfl rfl) ?_
                  refine r_s (s_n rfl rfl rfl) ?_
                  refine r_s (s_n rfl rfl rfl) ?_
                  refine r_u (o_pf rfl rfl rfl) ?_
                  refine r_u (o_mv rfl) ?_
                  refine r_s (s_n rfl rfl rfl) ?_
                  refine r_s (s_n rfl rfl rfl) ?_
                  refine r_s (s_n rfl rfl rfl) ?_
                  refine r_s (s_n rfl rfl rfl) ?_
                  refine r_s (s_n rfl rfl rfl) ?_
                  refine r_u (o_pf rfl rfl rfl) ?_
                  refine r_u (o_mv rfl) ?_
                  refine r_s (s_n rfl rfl rfl) ?_
                  refine r_s (s_n rfl rfl rfl) ?_
                  refine r_u (o_pf rfl rfl rfl) ?_
                  refine r_u (o_mv rfl) ?_
                  refine r_s (s_n rfl rfl rfl) ?_
                  refine r_s (s_n rfl rfl rfl) ?_
                  refine r_s (s_n rfl rfl rfl) ?_
                  refine r_u (o_pf rfl rfl rfl) ?_
                  refine r_u (o_mv rfl) ?_
                  refine r_s (s_n rfl rfl rfl) ?_
                  refine r_s (s_n rfl rfl rfl) ?_
                  refine r_s (s_n rfl rfl rfl) ?_
                  refine r_u (o_pf rfl rfl rfl) ?_
                  refine r_u (o_mv rfl) ?_
                  refine r_s (s_n rfl rfl rfl) ?_
                  refine r_s (s_n rfl rfl rfl) ?_
                  refine r_s (s_n rfl rfl rfl) ?_
                  refine r_s (s_n rfl rfl rfl) ?_
                  refine r_u (o_pf rfl rfl rfl) ?_
                  refine r_u (o_as rfl) ?_
                  refine r_nil ?_
                  refine x_seq ?_
                  refine c_ret ?_
                  obtain rfl := Option.some.inj hm57
                  refine ex_st (fun _ h => st_pk 7 [] (by decide) h) ?_
                  exact x_r1 rfl (rv_t rfl) (Le.refl _) ⟨_, rfl, rfl, rfl, rfl⟩
            · have hm50 := iff_ hm48 h49
              clear hm48
              refine c_reg ?_
              refine r_u (o_callq ca28 rfl (hawthornlaw08_awake.ok r36 hr36)) ?_
              refine r_u (o_mv rfl) ?_
              refine r_s (s_gt rfl rfl fun g => o_mv rfl) ?_
              refine r_s (s_gt rfl rfl fun g => o_not (evg rfl g)) ?_
              refine r_u (o_and rfl rfl) ?_
              refine r_u (o_mv rfl) ?_
              refine r_s (s_y rfl rfl h38 (o_mv rfl)) ?_
              refine r_s (s_y rfl rfl h38 (o_mv rfl)) ?_
              refine r_s (s_y rfl rfl h38 (o_callq ca29 rfl (hawthornlaw08_few.ok a1 r0 hr0))) ?_
              refine r_s (s_y rfl rfl h38 (o_callq ca32 rfl (tiny_Tiny_Has_n.ok r0 _ rfl))) ?_
              refine r_s (s_y rfl rfl h38 (o_not rfl)) ?_
              refine r_u (o_pt rfl h38 rfl) ?_
              refine r_u (o_mv rfl) ?_
              refine r_s (s_gt rfl rfl fun g => o_mv rfl) ?_
              refine r_s (s_gt rfl rfl fun g => o_callq ca31 (evs1 (evg rfl g) evs0) (tiny_Tiny_Len_n.ok _ rfl)) ?_
              refine r_s (s_gt rfl rfl fun g => o_bin (evg rfl g) rfl (bI_eq tiny_Tiny_Len_n 0)) ?_
              refine r_u (o_and rfl rfl) ?_
              refine r_u (o_mv rfl) ?_
              refine r_s (s_y rfl rfl h40 (o_mv rfl)) ?_
              refine r_s (s_y rfl rfl h40 (o_mv rfl)) ?_
              refine r_s (s_y rfl rfl h40 (o_callq ca29 rfl (hawthornlaw08_few.ok a1 r0 hr0))) ?_
              refine r_s (s_y rfl rfl h40 (o_callq ca34 rfl (tiny_Tiny_Touch_n.ok r0 r42 hr42))) ?_
              refine r_s (s_y rfl rfl h40 (o_not rfl)) ?_
              refine r_u (o_pt rfl h40 rfl) ?_
              refine r_u (o_mv rfl) ?_
              refine r_s (s_y rfl rfl (nbt h44) (o_mv rfl)) ?_
              refine r_s (s_y rfl rfl (nbt h44) (o_mv rfl)) ?_
              refine r_s (s_y rfl rfl (nbt h44) (o_callq ca29 rfl (hawthornlaw08_few.ok a1 r0 hr0))) ?_
              refine r_sw (s_yw rfl rfl (nbt h44) (o_call ca30 rfl (tiny_Tiny_Insert_n.ok r0 r46 hr46))) ?_
              rintro v137 R _ _ ⟨_, rfl, rfl, rfl⟩
              refine r_s (s_y rfl rfl (nbt h44) (o_lenO 0 Try.underlying23 rfl rfl)) ?_
              refine r_s (s_y rfl rfl (nbt h44) (o_bin rfl rfl (bI_eq (r46.length : Int) 0))) ?_
              refine r_u (o_pt rfl (nbt h44) rfl) ?_
              refine r_u (o_mv rfl) ?_
              refine r_s (s_n rfl rfl h49) ?_
              refine r_s (s_n rfl rfl h49) ?_
              refine r_s (s_n rfl rfl h49) ?_
              refine r_s (s_n rfl rfl h49) ?_
              refine r_s (s_n rfl rfl h49) ?_
              refine r_u (o_pf rfl h49 rfl) ?_
              refine r_u (o_mv rfl) ?_
              refine r_s (s_n rfl rfl rfl) ?_
              refine r_s (s_n rfl rfl rfl) ?_
              refine r_s (s_n rfl rfl rfl) ?_
              refine r_s (s_n rfl rfl rfl) ?_
              refine r_s (s_n rfl rfl rfl) ?_
              refine r_u (o_pf rfl rfl rfl) ?_
              refine r_u (o_mv rfl) ?_
              refine r_s (s_n rfl rfl rfl) ?_
              refine r_s (s_n rfl rfl rfl) ?_
              refine r_s (s_n rfl rfl rfl) ?_
              refine r_s (s_n rfl rfl rfl) ?_
              refine r_u (o_pf rfl rfl rfl) ?_
              refine r_u (o_mv rfl) ?_
              refine r_s (s_n rfl rfl rfl) ?_
              refine r_s (s_n rfl rfl rfl) ?_
              refine r_s (s_n rfl rfl rfl) ?_
              refine r_u (o_pf rfl rfl rfl) ?_
              refine r_u (o_mv rfl) ?_
              refine r_s (s_n rfl rfl rfl) ?_
              refine r_s (s_n rfl rfl rfl) ?_
              refine r_s (s_n rfl rfl rfl) ?_
              refine r_s (s_n rfl rfl rfl) ?_
              refine r_s (s_n rfl rfl rfl) ?_
              refine r_s (s_nu rfl rfl) ?_
              refine r_s (s_nu rfl rfl) ?_
              refine r_s (s_n rfl rfl rfl) ?_
              refine r_s (s_n rfl rfl rfl) ?_
              refine r_u (o_pf rfl rfl rfl) ?_
              refine r_u (o_mv rfl) ?_
              refine r_s (s_n rfl rfl rfl) ?_
              refine r_s (s_n rfl rfl rfl) ?_
              refine r_s (s_n rfl rfl rfl) ?_
              refine r_s (s_n rfl rfl rfl) ?_
              refine r_s (s_n rfl rfl rfl) ?_
              refine r_u (o_pf rfl rfl rfl) ?_
              refine r_u (o_mv rfl) ?_
              refine r_s (s_n rfl rfl rfl) ?_
              refine r_s (s_n rfl rfl rfl) ?_
              refine r_u (o_pf rfl rfl rfl) ?_
              refine r_u (o_mv rfl) ?_
              refine r_s (s_n rfl rfl rfl) ?_
              refine r_s (s_n rfl rfl rfl) ?_
              refine r_s (s_n rfl rfl rfl) ?_
              refine r_u (o_pf rfl rfl rfl) ?_
              refine r_u (o_mv rfl) ?_
              refine r_s (s_n rfl rfl rfl) ?_
              refine r_s (s_n rfl rfl rfl) ?_
              refine r_s (s_n rfl rfl rfl) ?_
              refine r_u (o_pf rfl rfl rfl) ?_
              refine r_u (o_mv rfl) ?_
              refine r_s (s_n rfl rfl rfl) ?_
              refine r_s (s_n rfl rfl rfl) ?_
              refine r_s (s_n rfl rfl rfl) ?_
              refine r_s (s_n rfl rfl rfl) ?_
              refine r_u (o_pf rfl rfl rfl) ?_
              refine r_u (o_as rfl) ?_
              refine r_nil ?_
              refine x_seq ?_
              refine c_ret ?_
              obtain rfl := Option.some.inj hm50
              refine ex_st (fun _ h => st_pk 7 [] (by decide) h) ?_
              exact x_r1 rfl (rv_t rfl) (Le.refl _) ⟨_, rfl, rfl, rfl, rfl⟩
        · have hm41 := iff_ hm39 h40
          clear hm39
          refine c_reg ?_
          refine r_u (o_callq ca28 rfl (hawthornlaw08_awake.ok r36 hr36)) ?_
          refine r_u (o_mv rfl) ?_
          refine r_s (s_gt rfl rfl fun g => o_mv rfl) ?_
          refine r_s (s_gt rfl rfl fun g => o_not (evg rfl g)) ?_
          refine r_u (o_and rfl rfl) ?_
          refine r_u (o_mv rfl) ?_
          refine r_s (s_y rfl rfl h38 (o_mv rfl)) ?_
          refine r_s (s_y rfl rfl h38 (o_mv rfl)) ?_
          refine r_s (s_y rfl rfl h38 (o_callq ca29 rfl (hawthornlaw08_few.ok a1 r0 hr0))) ?_
          refine r_s (s_y rfl rfl h38 (o_callq ca32 rfl (tiny_Tiny_Has_n.ok r0 _ rfl))) ?_
          refine r_s (s_y rfl rfl h38 (o_not rfl)) ?_
          refine r_u (o_pt rfl h38 rfl) ?_
          refine r_u (o_mv rfl) ?_
          refine r_s (s_gt rfl rfl fun g => o_mv rfl) ?_
          refine r_s (s_gt rfl rfl fun g => o_callq ca31 (evs1 (evg rfl g) evs0) (tiny_Tiny_Len_n.ok _ rfl)) ?_
          refine r_s (s_gt rfl rfl fun g => o_bin (evg rfl g) rfl (bI_eq tiny_Tiny_Len_n 0)) ?_
          refine r_u (o_and rfl rfl) ?_
          refine r_u (o_mv rfl) ?_
          refine r_s (s_n rfl rfl h40) ?_
          refine r_s (s_n rfl rfl h40) ?_
          refine r_s (s_n rfl rfl h40) ?_
          refine r_s (s_n rfl rfl h40) ?_
          refine r_s (s_n rfl rfl h40) ?_
          refine r_u (o_pf rfl h40 rfl) ?_
          refine r_u (o_mv rfl) ?_
          refine r_s (s_n rfl rfl rfl) ?_
          refine r_s (s_n rfl rfl rfl) ?_
          refine r_s (s_n rfl rfl rfl) ?_
          refine r_s (s_n rfl rfl rfl) ?_
          refine r_s (s_n rfl rfl rfl) ?_
          refine r_s (s_n rfl rfl rfl) ?_
          refine r_u (o_pf rfl rfl rfl) ?_
          refine r_u (o_mv rfl) ?_
          refine r_s (s_n rfl rfl rfl) ?_
          refine r_s (s_n rfl rfl rfl) ?_
          refine r_s (s_n rfl rfl rfl) ?_
          refine r_s (s_n rfl rfl rfl) ?_
          refine r_s (s_n rfl rfl rfl) ?_
          refine r_u (o_pf rfl rfl rfl) ?_
          refine r_u (o_mv rfl) ?_
          refine r_s (s_n rfl rfl rfl) ?_
          refine r_s (s_n rfl rfl rfl) ?_
          refine r_s (s_n rfl rfl rfl) ?_
          refine r_s (s_n rfl rfl rfl) ?_
          refine r_s (s_n rfl rfl rfl) ?_
          refine r_u (o_pf rfl rfl rfl) ?_
          refine r_u (o_mv rfl) ?_
          refine r_s (s_n rfl rfl rfl) ?_
          refine r_s (s_n rfl rfl rfl) ?_
          refine r_s (s_n rfl rfl rfl) ?_
          refine r_s (s_n rfl rfl rfl) ?_
          refine r_u (o_pf rfl rfl rfl) ?_
          refine r_u (o_mv rfl) ?_
          refine r_s (s_n rfl rfl rfl) ?_
          refine r_s (s_n rfl rfl rfl) ?_
          refine r_s (s_n rfl rfl rfl) ?_
          refine r_u (o_pf rfl rfl rfl) ?_
          refine r_u (o_mv rfl) ?_
          refine r_s (s_n rfl rfl rfl) ?_
          refine r_s (s_n rfl rfl rfl) ?_
          refine r_s (s_n rfl rfl rfl) ?_
          refine r_s (s_n rfl rfl rfl) ?_
          refine r_s (s_n rfl rfl rfl) ?_
          refine r_s (s_nu rfl rfl) ?_
          refine r_s (s_nu rfl rfl) ?_
          refine r_s (s_n rfl rfl rfl) ?_
          refine r_s (s_n rfl rfl rfl) ?_
          refine r_u (o_pf rfl rfl rfl) ?_
          refine r_u (o_mv rfl) ?_
          refine r_s (s_n rfl rfl rfl) ?_
          refine r_s (s_n rfl rfl rfl) ?_
          refine r_s (s_n rfl rfl rfl) ?_
          refine r_s (s_n rfl rfl rfl) ?_
          refine r_s (s_n rfl rfl rfl) ?_
          refine r_u (o_pf rfl rfl rfl) ?_
          refine r_u (o_mv rfl) ?_
          refine r_s (s_n rfl rfl rfl) ?_
          refine r_s (s_n rfl rfl rfl) ?_
          refine r_u (o_pf rfl rfl rfl) ?_
          refine r_u (o_mv rfl) ?_
          refine r_s (s_n rfl rfl rfl) ?_
          refine r_s (s_n rfl rfl rfl) ?_
          refine r_s (s_n rfl rfl rfl) ?_
          refine r_u (o_pf rfl rfl rfl) ?_
          refine r_u (o_mv rfl) ?_
          refine r_s (s_n rfl rfl rfl) ?_
          refine r_s (s_n rfl rfl rfl) ?_
          refine r_s (s_n rfl rfl rfl) ?_
          refine r_u (o_pf rfl rfl rfl) ?_
          refine r_u (o_mv rfl) ?_
          refine r_s (s_n rfl rfl rfl) ?_
          refine r_s (s_n rfl rfl rfl) ?_
          refine r_s (s_n rfl rfl rfl) ?_
          refine r_s (s_n rfl rfl rfl) ?_
          refine r_u (o_pf rfl rfl rfl) ?_
          refine r_u (o_as rfl) ?_
          refine r_nil ?_
          refine x_seq ?_
          refine c_ret ?_
          obtain rfl := Option.some.inj hm41
          refine ex_st (fun _ h => st_pk 6 [] (by decide) h) ?_
          exact x_r1 rfl (rv_t rfl) (Le.refl _) ⟨_, rfl, rfl, rfl, rfl⟩
      · have hm39 := iff_ hm37 h38
        clear hm37
        refine c_reg ?_
        refine r_u (o_callq ca28 rfl (hawthornlaw08_awake.ok r36 hr36)) ?_
        refine r_u (o_mv rfl) ?_
        refine r_s (s_gt rfl rfl fun g => o_mv rfl) ?_
        refine r_s (s_gt rfl rfl fun g => o_not (evg rfl g)) ?_
        refine r_u (o_and rfl rfl) ?_
        refine r_u (o_mv rfl) ?_
        refine r_s (s_n rfl rfl h38) ?_
        refine r_s (s_n rfl rfl h38) ?_
        refine r_s (s_n rfl rfl h38) ?_
        refine r_s (s_n rfl rfl h38) ?_
        refine r_s (s_n rfl rfl h38) ?_
        refine r_u (o_pf rfl h38 rfl) ?_
        refine r_u (o_mv rfl) ?_
        refine r_s (s_n rfl rfl rfl) ?_
        refine r_s (s_n rfl rfl rfl) ?_
        refine r_s (s_n rfl rfl rfl) ?_
        refine r_u (o_pf rfl rfl rfl) ?_
        refine r_u (o_mv rfl) ?_
        refine r_s (s_n rfl rfl rfl) ?_
        refine r_s (s_n rfl rfl rfl) ?_
        refine r_s (s_n rfl rfl rfl) ?_
        refine r_s (s_n rfl rfl rfl) ?_
        refine r_s (s_n rfl rfl rfl) ?_
        refine r_u (o_pf rfl rfl rfl) ?_
        refine r_u (o_mv rfl) ?_
        refine r_s (s_n rfl rfl rfl) ?_
        refine r_s (s_n rfl rfl rfl) ?_
        refine r_s (s_n rfl rfl rfl) ?_
        refine r_s (s_n rfl rfl rfl) ?_
        refine r_s (s_n rfl rfl rfl) ?_
        refine r_s (s_n rfl rfl rfl) ?_
        refine r_u (o_pf rfl rfl rfl) ?_
        refine r_u (o_mv rfl) ?_
        refine r_s (s_n rfl rfl rfl) ?_
        refine r_s (s_n rfl rfl rfl) ?_
        refine r_s (s_n rfl rfl rfl) ?_
        refine r_s (s_n rfl rfl rfl) ?_
        refine r_s (s_n rfl rfl rfl) ?_
        refine r_u (o_pf rfl rfl rfl) ?_
        refine r_u (o_mv rfl) ?_
        refine r_s (s_n rfl rfl rfl) ?_
        refine r_s (s_n rfl rfl rfl) ?_
        refine r_s (s_n rfl rfl rfl) ?_
        refine r_s (s_n rfl rfl rfl) ?_
        refine r_s (s_n rfl rfl rfl) ?_
        refine r_u (o_pf rfl rfl rfl) ?_
        refine r_u (o_mv rfl) ?_
        refine r_s (s_n rfl rfl rfl) ?_
        refine r_s (s_n rfl rfl rfl) ?_
        refine r_s (s_n rfl rfl rfl) ?_
        refine r_s (s_n rfl rfl rfl) ?_
        refine r_u (o_pf rfl rfl rfl) ?_
        refine r_u (o_mv rfl) ?_
        refine r_s (s_n rfl rfl rfl) ?_
        refine r_s (s_n rfl rfl rfl) ?_
        refine r_s (s_n rfl rfl rfl) ?_
        refine r_u (o_pf rfl rfl rfl) ?_
        refine r_u (o_mv rfl) ?_
        refine r_s (s_n rfl rfl rfl) ?_
        refine r_s (s_n rfl rfl rfl) ?_
        refine r_s (s_n rfl rfl rfl) ?_
        refine r_s (s_n rfl rfl rfl) ?_
        refine r_s (s_n rfl rfl rfl) ?_
        refine r_s (s_nu rfl rfl) ?_
        refine r_s (s_nu rfl rfl) ?_
        refine r_s (s_n rfl rfl rfl) ?_
        refine r_s (s_n rfl rfl rfl) ?_
        refine r_u (o_pf rfl rfl rfl) ?_
        refine r_u (o_mv rfl) ?_
        refine r_s (s_n rfl rfl rfl) ?_
        refine r_s (s_n rfl rfl rfl) ?_
        refine r_s (s_n rfl rfl rfl) ?_
        refine r_s (s_n rfl rfl rfl) ?_
        refine r_s (s_n rfl rfl rfl) ?_
        refine r_u (o_pf rfl rfl rfl) ?_
        refine r_u (o_mv rfl) ?_
        refine r_s (s_n rfl rfl rfl) ?_
        refine r_s (s_n rfl rfl rfl) ?_
        refine r_u (o_pf rfl rfl rfl) ?_
        refine r_u (o_mv rfl) ?_
        refine r_s (s_n rfl rfl rfl) ?_
        refine r_s (s_n rfl rfl rfl) ?_
        refine r_s (s_n rfl rfl rfl) ?_
        refine r_u (o_pf rfl rfl rfl) ?_
        refine r_u (o_mv rfl) ?_
        refine r_s (s_n rfl rfl rfl) ?_
        refine r_s (s_n rfl rfl rfl) ?_
        refine r_s (s_n rfl rfl rfl) ?_
        refine r_u (o_pf rfl rfl rfl) ?_
        refine r_u (o_mv rfl) ?_
        refine r_s (s_n rfl rfl rfl) ?_
        refine r_s (s_n rfl rfl rfl) ?_
        refine r_s (s_n rfl rfl rfl) ?_
        refine r_s (s_n rfl rfl rfl) ?_
        refine r_u (o_pf rfl rfl rfl) ?_
        refine r_u (o_as rfl) ?_
        refine r_nil ?_
        refine x_seq ?_
        refine c_ret ?_
        obtain rfl := Option.some.inj hm39
        refine ex_st (fun _ h => st_pk 6 [] (by decide) h) ?_
        exact x_r1 rfl (rv_t rfl) (Le.refl _) ⟨_, rfl, rfl, rfl, rfl⟩
    · refine cd_st (fun _ h => st_pk 4 [2, 0, 1, 3] (by decide) h) ?_
      refine cd_opt (fun ho140 => ?_) (fun x138 b139 ho140 => ?_)
      · rintro rfl
        have hm141 := om_n hp29 ho140
        clear hp29
        refine c_reg ?_
        refine r_u (o_mv rfl) ?_
        refine r_u (o_mv rfl) ?_
        refine r_u (o_callq ca33 rfl (tiny_Tiny_Miss_n.ok l15)) ?_
        refine r_nil ?_
        refine ex_st (fun _ h => st_none (f := tiny_Tiny.op default) h) ?_
        obtain rfl := Option.some.inj hm141
        exact x_sub (K31 (nl, default)) ⟨rfl, rfl, rfl, rfl, rfl, rfl, rfl, rfl, rfl, rfl, trivial⟩ (fun _ h => st_pk 4 [1, 2, 3, 0] (by decide) h)
      · rintro rfl
        have hm141 := om_s hp29 ho140
        clear hp29
        obtain ⟨⟨pv143, g144⟩, ⟨pv146, g147⟩⟩ := g20
        refine cd_st (fun _ h => st_star_o h) ?_
        refine c_reg ?_
        refine r_u (o_mv rfl) ?_
        refine r_u (o_mv rfl) ?_
        obtain ⟨r148, hr148, hm149⟩ := bs hm141
        clear hm141
        refine r_c (s_w (o_call ca33 rfl (tiny_Tiny_Miss.ok b139 x138 (⟨(pv143, g144), (pv146, g147)⟩ : tiny_Tiny.G) l15 r148 hr148))) ?_
        refine r_nil ?_
        refine ex_st (fun _ h => st_some (f := tiny_Tiny.op (⟨(pv143, g144), (pv146, g147)⟩ : tiny_Tiny.G)) (a := r148) (st_star_f (A := tiny_Tiny.fl b139 r148 (⟨(pv143, g144), (pv146, g147)⟩ : tiny_Tiny.G)) h)) ?_
        obtain rfl := Option.some.inj hm149
        exact x_sub (K31 (pt b139 0, (⟨(pv143, g144), (pv146, g147)⟩ : tiny_Tiny.G))) ⟨rfl, rfl, rfl, rfl, rfl, rfl, rfl, rfl, rfl, rfl, trivial⟩ (fun _ h => st_pk 4 [1, 2, 3, 0] (by decide) h)
  · refine cd_st (fun _ h => st_pk 3 [1, 0, 2] (by decide) h) ?_
    refine cd_opt (fun ho152 => ?_) (fun x150 b151 ho152 => ?_)
    · rintro rfl
      have hm153 := om_n hp22 ho152
      clear hp22
      refine c_reg ?_
      refine r_u (o_mv rfl) ?_
      refine r_u (o_mv rfl) ?_
      obtain ⟨r170, hr170, hm172⟩ := ltx hm153
      clear hm153
      refine r_sw (s_w (o_call ca30 rfl (tiny_Tiny_Insert_n.ok l15 r170 hr170))) ?_
      rintro v171 R _ _ ⟨_, rfl, rfl, rfl⟩
      refine r_u (o_as rfl) ?_
      refine r_nil ?_
      refine ex_st (fun _ h => st_none (f := tiny_Tiny.op default) h) ?_
      obtain rfl := Option.some.inj hm172
      exact x_sub (K24 (nl, default) v171) ⟨rfl, rfl, rfl, rfl, rfl, rfl, rfl, rfl, rfl, rfl, trivial⟩ (fun _ h => st_pk 4 [2, 3, 0, 1] (by decide) h)
    · rintro rfl
      have hm153 := om_s hp22 ho152
      clear hp22
      obtain ⟨⟨pv155, g156⟩, ⟨pv158, g159⟩⟩ := g12
      refine cd_st (fun _ h => st_star_o h) ?_
      refine c_reg ?_
      refine r_u (o_mv rfl) ?_
      refine r_u (o_mv rfl) ?_
      obtain ⟨r160, hr160, hm169⟩ := bs hm153
      clear hm153
      refine r_sw (s_w (o_call ca30 rfl (tiny_Tiny_Insert.ok b151 x150 (⟨(pv155, g156), (pv158, g159)⟩ : tiny_Tiny.G) l15 r160 hr160))) ?_
      rintro v161 R _ _ ⟨_, ⟨⟨pv164, g165⟩, ⟨pv167, g168⟩⟩, rfl, rfl, rfl⟩
      refine r_u (o_as rfl) ?_
      refine r_nil ?_
      refine ex_st (fun _ h => st_pk 6 [1, 2, 3, 0, 4, 5] (by decide) h) ?_
      refine ex_st (fun _ h => st_some (f := tiny_Tiny.op (⟨(pv164, g165), (pv167, g168)⟩ : tiny_Tiny.G)) (a := r160.2) (st_star_f (A := tiny_Tiny.fl b151 r160.2 (⟨(pv164, g165), (pv167, g168)⟩ : tiny_Tiny.G)) h)) ?_
      obtain rfl := Option.some.inj hm169
      exact x_sub (K24 (pt b151 0, (⟨(pv164, g165), (pv167, g168)⟩ : tiny_Tiny.G)) v161) ⟨rfl, rfl, rfl, rfl, rfl, rfl, rfl, rfl, rfl, rfl, trivial⟩ (fun _ h => st_pk 4 [2, 3, 0, 1] (by decide) h)

end Go.Proofs.Ytlahbmoebbflbaa
