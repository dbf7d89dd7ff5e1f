import Derived.Test.YthngfieikhillaaW8
import Derived.Test.YthngfieikhillaaFacts
import Derived.Test.YthngfieikhillaaHwU
set_option linter.unusedVariables false
set_option linter.unusedSectionVars false
set_option linter.unusedSimpArgs false
set_option maxRecDepth 100000
set_option maxHeartbeats 8000000
namespace Go.Proofs.Ythngfieikhillaa
open Go Go.Proofs.Ythngfieikhillaa.Hw
def hawthornlaw21_ClientEpochs_l0 (p22 : List UInt64 × Option client_Client) (r39 : List UInt64) : Nat → Int → Option (Unit ⊕ Bool)
  | 0, _ => none
  | k54 + 1, i_53 => if decide (i_53 < (p22.1.length : Int)) then (gi r39 i_53).bind fun x59 => (gi p22.1 i_53).bind fun x61 => if (x59 != x61) then some (Sum.inr false) else hawthornlaw21_ClientEpochs_l0 p22 r39 k54 (i64 (i_53 + 1)) else some (Sum.inl ())
def hawthornlaw21_ClientEpochs_l1 (a0 : List UInt64) (p2 : List api_Op) : Nat → (List UInt64) → (Option client_Client) → Int → Option (List UInt64 × Option client_Client)
  | 0, _, _, _ => none
  | k76 + 1, want_67, c_68, i_69 => if decide (i_69 < (p2.length : Int)) then om c_68 (none) fun x81 => (client_Client_Tick x81 i_69).bind fun r88 => (gi a0 i_69).bind fun x92 => (hawthornlaw21_told 0 10 (⟨14, (⟨(hawthornlaw21_view 0).V, (hawthornlaw21_view 0).Primary, (hawthornlaw21_view 0).PLife, (hawthornlaw21_view 0).Backup, (hawthornlaw21_view 0).BLife, 1 + (x92 &&& 3)⟩ : api_View), (⟨0, 0, 0, 0, 0, 0⟩ : api_View), 0, (⟨false, 0, 0, 0, (⟨0, 0, 0, 0, 0, 0⟩ : api_View), (⟨0, 0, 0, 0, 0, 0⟩ : api_View)⟩ : api_Promise), 0, 0, 0, [], (⟨0, 0, [], [], []⟩ : api_Piece), [], [], 10, toW (i64 (i_69 + 1)), (⟨0, [], [], 0, 0⟩ : api_Op), (⟨0, [], 0⟩ : api_Reply)⟩ : api_Say)).bind fun r94 => (client_Client_Handle r88.2 r94 i_69).bind fun r96 => Option.bind (if ((want_67.length : Int) == 0) then some true else (gi want_67 (i64 ((want_67.length : Int) - 1))).bind fun x122 => some (x122 != (1 + (x92 &&& 3)))) fun p105 => Option.bind (if p105 then (apd 8 want_67 [1 + (x92 &&& 3)]).bind fun l118 => some l118 else some want_67) fun p109 => hawthornlaw21_ClientEpochs_l1 a0 p2 k76 p109 (some r96.2) (i64 (i_69 + 1)) else some (want_67, c_68)
def hawthornlaw21_ClientEpochs_l2 (a0 : List UInt64) : Nat → (List api_Op) → Int → Option (List api_Op)
  | 0, _, _ => none
  | k127 + 1, calls_124, i_125 => if (decide (i_125 < (a0.length : Int)) && decide (i_125 < 20)) then (apd 56 calls_124 [hawthornlaw21_get]).bind fun l134 => hawthornlaw21_ClientEpochs_l2 a0 k127 l134 (i64 (i_125 + 1)) else some calls_124
def hawthornlaw21_ClientEpochs (a0 : List UInt64) : Option Bool :=
  Option.bind (hawthornlaw21_ClientEpochs_l2 a0 (((a0.length : Int) - 0).toNat + 1) [] 0) fun p2 => (client_New 10 p2).bind fun r11 => (hawthornlaw21_awake).bind fun r16 => if (!r16 || (r11.2 != 0)) then some false else Option.bind (hawthornlaw21_ClientEpochs_l1 a0 p2 (((p2.length : Int) - 0).toNat + 1) [] r11.1 0) fun p22 => om p22.2 (none) fun x32 => (client_Client_Epochs x32).bind fun r39 => Option.bind (if ((r39.length : Int) != (p22.1.length : Int)) then some true else some (!(client_Client_Ended x32))) fun p42 => if p42 then some false else Option.bind (hawthornlaw21_ClientEpochs_l0 p22 r39 (((p22.1.length : Int) - 0).toNat + 1) 0) fun (p48 : Unit ⊕ Bool) => (match p48 with | Sum.inl q49 => some true | Sum.inr r => some r)
theorem hawthornlaw21_ClientEpochs.ok {G R F} (v0_ : Value) (a0 : List UInt64) (h0_ : RoS R v0_ 1 (fun x => [vW x]) a0) (r : Bool) (hm : hawthornlaw21_ClientEpochs a0 = some r) : CO Try.prog 5 [v0_] G R (F)
    (Ret fun u R' L' => u = vB r ∧ True ∧ L' = F) := by
  unfold hawthornlaw21_ClientEpochs at hm
  refine co_ofN (N := 111) Try.func5 rfl rfl ?_
  refine c_seq ?_
  refine c_reg ?_
  refine r_u (o_as rfl) ?_
  refine r_nil ?_
  refine x_seq ?_
  refine c_seq ?_
  refine c_reg ?_
  refine r_sw (s_w (o_bsl (en := api_Op.c) (sz := 5) (e := 32) (cs := []) (r := []) rfl (fun _ => by kernel_rfl) rfl (by decide) rfl (fun _ => rfl))) ?_
  rintro v0 R _ _ ⟨rfl, rfl⟩
  refine r_sw (s_w (o_bsl (en := eW) (sz := 1) (e := 22) (cs := []) (r := []) rfl (fun _ => by kernel_rfl) rfl (by decide) rfl (fun _ => rfl))) ?_
  rintro v1 R _ _ ⟨rfl, rfl⟩
  refine r_u (o_as rfl) ?_
  refine r_u (o_as rfl) ?_
  refine r_nil ?_
  refine x_seq ?_
  refine c_seq ?_
  refine c_seq ?_
  refine c_reg ?_
  refine r_u (o_as rfl) ?_
  refine r_nil ?_
  refine x_seq ?_
  obtain ⟨p2, hp4, hm5⟩ := bs hm
  refine cd_cut (fun x ks => ∀ (g3 : Value), EX x .normal ks [(0, v0_), (4, v1), (3, g3)] R (OwS true 22 1 eW v1 [] :: OwS true 32 5 api_Op.c g3 p2 :: F)) ?_ fun K6 => ?_
  · intro g3
    refine x_seq ?_
    refine c_seq ?_
    refine c_reg ?_
    refine r_u (o_mv rfl) ?_
    refine rl_st (fun _ h => st_pk 2 [1, 0] (by decide) h) ?_
    refine rl_ex (fun w h => st_freeze w h) fun R7 hf10 => ?_
    obtain ⟨le8, h9⟩ := hf10
    obtain ⟨r11, hr11, hm15⟩ := bs hm5
    clear hm5
    refine r_sw (s_w (o_call ca13 rfl (client_New.ok 10 g3 p2 h9 r11 hr11))) ?_
    rintro _ R7 _ _ ⟨⟨pv13, g14⟩, rfl, rfl, rfl⟩
    refine r_u (o_mv rfl) ?_
    refine r_u (o_ext rfl rfl) ?_
    refine r_u (o_ext rfl rfl) ?_
    refine r_u (o_as rfl) ?_
    refine r_u (o_as rfl) ?_
    refine r_nil ?_
    refine x_seq ?_
    refine c_seq ?_
    refine c_seq ?_
    refine c_reg ?_
    obtain ⟨r16, hr16, hm19⟩ := bs hm15
    clear hm15
    refine r_sw (s_w (o_call ca14 rfl (hawthornlaw21_awake.ok r16 hr16))) ?_
    rintro _ R17 _ le18 ⟨rfl, _, rfl⟩
    refine r_u (o_not rfl) ?_
    refine r_u (o_mv rfl) ?_
    refine r_s (s_gf rfl rfl fun g => o_mv rfl) ?_
    refine r_s (s_gf rfl rfl fun g => o_bin (evg rfl g) rfl (bI_ne r11.2 0)) ?_
    refine r_u (o_or rfl rfl) ?_
    refine r_nil ?_
    refine x_seq ?_
    refine c_if (b := (!r16 || (r11.2 != 0))) rfl (fun h20 => ?_) fun h20 => ?_
    · have hm21 := ift hm19 h20
      clear hm19
      refine c_seq ?_
      refine c_reg ?_
      refine r_u (o_as rfl) ?_
      refine r_nil ?_
      refine x_seq ?_
      refine c_ret ?_
      obtain rfl := Option.some.inj hm21
      refine ex_st (fun _ h => st_pk 2 [] (by decide) h) ?_
      exact x_r1 rfl (rv_t rfl) (Le.trans le8 le18) ⟨_, rfl, rfl, trivial, rfl⟩
    · have hm21 := iff_ hm19 h20
      clear hm19
      refine c_skip ?_
      refine x_seq ?_
      refine c_seq ?_
      refine c_seq ?_
      refine c_reg ?_
      refine r_u (o_as rfl) ?_
      refine r_nil ?_
      refine x_seq ?_
      obtain ⟨p22, hp29, hm30⟩ := bs hm21
      refine cd_cut (fun x ks => ∀ (R23 : PH), ∀ (le24 : Le R17 R23), ∀ (g25 : Value), ∀ (pv26 : Value × client_Client.G), EX x .normal ks [(4, g25), (6, pv26.1)] R23 (OwS true 22 1 eW g25 p22.1 :: rO (client_Client.op pv26.2) pv26.1 p22.2 :: F)) ?_ fun K31 => ?_
      · intro R23 le24 g25 pv26
        obtain ⟨pv27, g28⟩ := pv26
        refine x_seq ?_
        refine c_seq ?_
        refine cd_st (fun _ h => st_pk 2 [1, 0] (by decide) h) ?_
        refine cd_opt (fun ho34 => ?_) (fun x32 b33 ho34 => ?_)
        · rintro rfl
          have hm35 := om_n hm30 ho34
          clear hm30
          cases hm35
        · rintro rfl
          have hm35 := om_s hm30 ho34
          clear hm30
          refine cd_st (fun _ h => st_star_o h) ?_
          refine c_reg ?_
          refine r_u (o_mv rfl) ?_
          obtain ⟨r39, hr39, hm41⟩ := bs hm35
          clear hm35
          refine r_sw (s_w (o_call ca23 rfl (client_Client_Epochs.ok b33 x32 g28 r39 hr39))) ?_
          rintro v40 R23 _ _ ⟨_, rfl, rfl, rfl⟩
          refine r_u (o_as rfl) ?_
          refine r_nil ?_
          refine x_seq ?_
          refine c_seq ?_
          refine c_seq ?_
          obtain ⟨p42, hp43, hm44⟩ := bs hm41
          refine cd_join (E' := [(4, g25), (10, v40), (95, vB p42)]) (L' := Bk b33 97 [vI x32.n, g28.l, vI x32.at_, vI x32.to, vI x32.since, vI x32.began, vB x32.under, g28.heard, g28.epochs] :: OwS true 22 1 eW v40 r39 :: OwS true 32 5 api_Op.c g28.l x32.l :: OwS true 65 9 api_Heard.c g28.heard x32.heard :: OwS true 22 1 eW g28.epochs x32.epochs :: OwS true 22 1 eW g25 p22.1 :: F) ?_ fun K45 => ?_
          · refine x_seq ?_
            refine c_if (b := p42) rfl (fun h46 => ?_) fun h46 => ?_
            · have hm47 := ift hm44 h46
              clear hm44
              refine c_seq ?_
              refine c_reg ?_
              refine r_u (o_as rfl) ?_
              refine r_nil ?_
              refine x_seq ?_
              refine c_ret ?_
              obtain rfl := Option.some.inj hm47
              refine ex_st (fun _ h => st_pk 6 [] (by decide) h) ?_
              exact x_r1 rfl (rv_t rfl) (Le.trans (Le.trans le8 le18) le24) ⟨_, rfl, rfl, trivial, rfl⟩
            · have hm47 := iff_ hm44 h46
              clear hm44
              refine c_skip ?_
              refine x_seq ?_
              refine c_seq ?_
              refine c_seq ?_
              refine c_reg ?_
              refine r_u (o_as rfl) ?_
              refine r_nil ?_
              refine x_seq ?_
              obtain ⟨p48, hp50, hm51⟩ := bs hm47
              refine cd_joinS (p := p48) (Ef := fun q49 => []) (Lf := fun q49 => Bk b33 97 [vI x32.n, g28.l, vI x32.at_, vI x32.to, vI x32.since, vI x32.began, vB x32.under, g28.heard, g28.epochs] :: OwS true 22 1 eW v40 r39 :: OwS true 32 5 api_Op.c g28.l x32.l :: OwS true 65 9 api_Heard.c g28.heard x32.heard :: OwS true 22 1 eW g28.epochs x32.epochs :: OwS true 22 1 eW g25 p22.1 :: F) (fun q49 hq => ?_) fun K52 => ?_
              · subst hq
                try dsimp only at hm51
                refine x_seq ?_
                refine c_seq ?_
                refine c_reg ?_
                refine r_u (o_as rfl) ?_
                refine r_nil ?_
                refine x_seq ?_
                refine c_ret ?_
                obtain rfl := Option.some.inj hm51
                refine ex_st (fun _ h => st_pk 6 [] (by decide) h) ?_
                exact x_r1 rfl (rv_t rfl) (Le.trans (Le.trans le8 le18) le24) ⟨_, rfl, rfl, trivial, rfl⟩
              · refine c_blk ?_
                refine cd_loop (M := fun k54 (i_53 : Int) => hawthornlaw21_ClientEpochs_l0 p22 r39 k54 i_53 = some p48) (Ef := fun (i_53 : Int) => [(4, g25), (10, v40), (11, vI i_53)]) (Lf := fun (i_53 : Int) => Bk b33 97 [vI x32.n, g28.l, vI x32.at_, vI x32.to, vI x32.since, vI x32.began, vB x32.under, g28.heard, g28.epochs] :: OwS true 22 1 eW v40 r39 :: OwS true 32 5 api_Op.c g28.l x32.l :: OwS true 65 9 api_Heard.c g28.heard x32.heard :: OwS true 22 1 eW g28.epochs x32.epochs :: OwS true 22 1 eW g25 p22.1 :: F) (((p22.1.length : Int) - 0).toNat + 1) 0 hp50 ⟨rfl, rfl, rfl, trivial⟩ (fun _ h => h) (fun _ h => by cases h) fun k54 i_53 hM56 => ?_
                have hm55 : hawthornlaw21_ClientEpochs_l0 p22 r39 (k54 + 1) i_53 = some p48 := hM56
                rw [hawthornlaw21_ClientEpochs_l0] at hm55
                refine c_seq ?_
                refine c_seq ?_
                refine c_reg ?_
                refine r_u (o_mv rfl) ?_
                refine r_u (o_mv rfl) ?_
                refine r_u (o_lenO 5 Try.underlying67 rfl rfl) ?_
                refine r_u (o_bin rfl rfl (bI_lt i_53 (p22.1.length : Int))) ?_
                refine r_nil ?_
                refine x_seq ?_
                refine c_if (b := decide (i_53 < (p22.1.length : Int))) rfl (fun h57 => ?_) fun h57 => ?_
                · have hm58 := ift hm55 h57
                  clear hm55
                  refine c_skip ?_
                  refine x_seq ?_
                  refine c_seq ?_
                  refine c_blk ?_
                  refine c_seq ?_
                  obtain ⟨x59, hx59, hm60⟩ := bs hm58
                  clear hm58
                  obtain ⟨x61, hx61, hm62⟩ := bs hm60
                  clear hm60
                  refine c_any mixed (effs := []) (V := []) ?_
                  refine stage_ext [(0, v40), (1, vI i_53), (2, pt (sb v40) (so v40 + i_53.toNat * 1)), (3, vW x59), (4, g25), (5, vI i_53), (6, pt (sb g25) (so g25 + i_53.toNat * 1)), (7, vW x61), (8, vB (x59 != x61))] rfl ?_
                  refine stage rfl rfl rfl rfl [0, 0, 3, 7, 0, 0, 48, 112, 255] [0, 1, 2, 3, 4, 5, 6, 7, 8] [] rfl rfl rfl (qc rfl rfl (s_u (o_mv rfl)) (qc rfl rfl (s_u (o_mv rfl)) (qc rfl rfl (s_u (o_ixO 1 Try.underlying67 (fun _ => by kernel_rfl) rfl rfl rfl hx59)) (qc rfl rfl (s_u (o_ldO0 1 sc22 rfl rfl hx59 rfl rfl)) (qc rfl rfl (s_u (o_mv rfl)) (qc rfl rfl (s_u (o_mv rfl)) (qc rfl rfl (s_u (o_ixO 5 Try.underlying67 (fun _ => by kernel_rfl) rfl rfl rfl hx61)) (qc rfl rfl (s_u (o_ldO0 5 sc22 rfl rfl hx61 rfl rfl)) (qc rfl rfl (s_u (o_bin rfl rfl (bW_ne x59 x61))) qn))))))))) en ?_
                  intro _
                  refine ex_sub (E' := [(4, g25), (10, v40), (11, vI i_53), (110, vB (x59 != x61))]) ⟨rfl, rfl, rfl, rfl, trivial⟩ ?_
                  refine x_seq ?_
                  refine c_if (b := (x59 != x61)) rfl (fun h63 => ?_) fun h63 => ?_
                  · have hm64 := ift hm62 h63
                    clear hm62
                    refine c_seq ?_
                    refine c_reg ?_
                    refine r_u (o_as rfl) ?_
                    refine r_nil ?_
                    refine x_seq ?_
                    refine c_ret ?_
                    obtain rfl := Option.some.inj hm64
                    try dsimp only at hm51
                    obtain rfl := Option.some.inj hm51
                    refine ex_st (fun _ h => st_pk 6 [] (by decide) h) ?_
                    exact x_r1 rfl (rv_t rfl) (Le.trans (Le.trans le8 le18) le24) ⟨_, rfl, rfl, trivial, rfl⟩
                  · have hm64 := iff_ hm62 h63
                    clear hm62
                    refine c_skip ?_
                    refine x_blk ?_
                    refine x_seq ?_
                    refine c_reg ?_
                    refine r_u (o_mv rfl) ?_
                    refine r_u (o_bin rfl rfl (bI_add i_53 1)) ?_
                    refine r_u (o_as rfl) ?_
                    refine r_nil ?_
                    exact x_lp (i64 (i_53 + 1)) hm64 ⟨rfl, rfl, rfl, trivial⟩ (fun _ h => st_pk 6 [0, 1, 2, 3, 4, 5] (by decide) h)
                · have hm58 := iff_ hm55 h57
                  clear hm55
                  refine c_exit (x_exit (ks' := _) rfl ?_)
                  obtain rfl := Option.some.inj hm58
                  exact x_sub (K52 _ rfl) trivial (fun _ h => st_pk 6 [0, 1, 2, 3, 4, 5] (by decide) h)
          · refine cd_by ((r39.length : Int) != (p22.1.length : Int)) (fun h65 => ?_) fun h65 => ?_
            · have hm66 := ift hp43 h65
              clear hp43
              refine c_reg ?_
              refine r_u (o_mv rfl) ?_
              refine r_u (o_lenO 0 Try.underlying67 rfl rfl) ?_
              refine r_u (o_mv rfl) ?_
              refine r_u (o_lenO 5 Try.underlying67 rfl rfl) ?_
              refine r_u (o_bin rfl rfl (bI_ne (r39.length : Int) (p22.1.length : Int))) ?_
              refine r_u (o_mv rfl) ?_
              refine r_s (s_n rfl rfl h65) ?_
              refine r_s (s_n rfl rfl h65) ?_
              refine r_s (s_n rfl rfl h65) ?_
              refine r_u (o_pt rfl h65 rfl) ?_
              refine r_nil ?_
              obtain rfl := Option.some.inj hm66
              exact x_sub K45 ⟨rfl, rfl, rfl, trivial⟩ (fun _ h => st_pk 6 [1, 0, 2, 3, 4, 5] (by decide) h)
            · have hm66 := iff_ hp43 h65
              clear hp43
              refine c_reg ?_
              refine r_u (o_mv rfl) ?_
              refine r_u (o_lenO 0 Try.underlying67 rfl rfl) ?_
              refine r_u (o_mv rfl) ?_
              refine r_u (o_lenO 5 Try.underlying67 rfl rfl) ?_
              refine r_u (o_bin rfl rfl (bI_ne (r39.length : Int) (p22.1.length : Int))) ?_
              refine r_u (o_mv rfl) ?_
              refine r_s (s_y rfl rfl h65 (o_mv rfl)) ?_
              refine rl_st (fun _ h => st_pk 6 [1, 2, 3, 4, 0, 5] (by decide) h) ?_
              refine r_c (s_yw rfl rfl h65 (o_call ca20 rfl (client_Client_Ended.ok b33 x32 g28 _ rfl))) ?_
              refine r_s (s_y rfl rfl h65 (o_not rfl)) ?_
              refine r_u (o_pf rfl h65 rfl) ?_
              refine r_nil ?_
              obtain rfl := Option.some.inj hm66
              exact x_sub K45 ⟨rfl, rfl, rfl, trivial⟩ (fun _ h => st_pk 6 [0, 4, 1, 2, 3, 5] (by decide) h)
      · refine c_blk ?_
        refine cd_loopG (M := fun k76 (s : List UInt64 × Option client_Client × Int × Value × (Value × client_Client.G) × PH) => (hawthornlaw21_ClientEpochs_l1 a0 p2 k76 s.1 s.2.1 s.2.2.1 = some p22) ∧ (Le R17 s.2.2.2.2.2)) (Ef := fun (s : List UInt64 × Option client_Client × Int × Value × (Value × client_Client.G) × PH) => [(0, v0_), (3, g3), (4, s.2.2.2.1), (6, s.2.2.2.2.1.1), (8, vI s.2.2.1)]) (Rf := fun (s : List UInt64 × Option client_Client × Int × Value × (Value × client_Client.G) × PH) => s.2.2.2.2.2) (Lf := fun (s : List UInt64 × Option client_Client × Int × Value × (Value × client_Client.G) × PH) => OwS true 22 1 eW s.2.2.2.1 s.1 :: rO (client_Client.op s.2.2.2.2.1.2) s.2.2.2.2.1.1 s.2.1 :: F) (((p2.length : Int) - 0).toNat + 1) ([], r11.1, 0, v1, (pv13, g14), R17) ⟨hp29, (Le.refl _)⟩ ⟨rfl, rfl, rfl, rfl, rfl, trivial⟩ (fun _ h => st_pk 2 [1, 0] (by decide) h) (fun _ h => by cases h.1) fun k76 s hM78 => ?_
        obtain ⟨want_67, c_68, i_69, g72, pv73, R70⟩ := s
        have hm77 : hawthornlaw21_ClientEpochs_l1 a0 p2 (k76 + 1) want_67 c_68 i_69 = some p22 := hM78.1
        have le71 : Le R17 R70 := hM78.2
        rw [hawthornlaw21_ClientEpochs_l1] at hm77
        obtain ⟨pv74, g75⟩ := pv73
        refine c_seq ?_
        refine c_seq ?_
        refine c_reg ?_
        refine r_u (o_mv rfl) ?_
        refine r_u (o_mv rfl) ?_
        refine r_u (o_lenR Try.underlying48 rfl (RoS.mono (Le.trans le18 le71) h9)) ?_
        refine r_u (o_bin rfl rfl (bI_lt i_69 (p2.length : Int))) ?_
        refine r_nil ?_
        refine x_seq ?_
        refine c_if (b := decide (i_69 < (p2.length : Int))) rfl (fun h79 => ?_) fun h79 => ?_
        · have hm80 := ift hm77 h79
          clear hm77
          refine c_skip ?_
          refine x_seq ?_
          refine c_seq ?_
          refine c_blk ?_
          refine c_seq ?_
          refine cd_st (fun _ h => st_pk 2 [1, 0] (by decide) h) ?_
          refine cd_opt (fun ho83 => ?_) (fun x81 b82 ho83 => ?_)
          · rintro rfl
            have hm84 := om_n hm80 ho83
            clear hm80
            cases hm84
          · rintro rfl
            have hm84 := om_s hm80 ho83
            clear hm80
            refine cd_st (fun _ h => st_star_o h) ?_
            refine c_reg ?_
            refine r_u (o_mv rfl) ?_
            refine r_u (o_mv rfl) ?_
            obtain ⟨r88, hr88, hm90⟩ := bs hm84
            clear hm84
            refine r_sw (s_w (o_call ca15 rfl (client_Client_Tick.ok b82 x81 g75 i_69 r88 hr88))) ?_
            rintro v89 R70 _ _ ⟨_, rfl, rfl, rfl⟩
            refine r_nil ?_
            refine x_seq ?_
            refine c_seq ?_
            refine c_reg ?_
            refine r_u (o_callq ca16 rfl (hawthornlaw21_view.ok 0 _ rfl)) ?_
            refine r_new (o_al ze24) fun b91 => ?_
            refine r_u0 (o_stn ag24 rfl rfl rfl rfl rfl rfl rfl) ?_
            refine r_nil ?_
            refine x_seq ?_
            refine c_seq ?_
            refine c_reg ?_
            refine r_u (o_mv rfl) ?_
            refine r_u (o_mv rfl) ?_
            obtain ⟨x92, hx92, hm93⟩ := bs hm90
            clear hm90
            obtain ⟨b92, o92, l92, T92, fr92, c92, hv92, hR92, he92, hi92⟩ := RoS.ne (RoS.mono (Le.trans (Le.trans le8 le18) le71) h0_) hx92
            refine r_u (o_ix (sz := 1) Try.underlying67 (fun _ => by kernel_rfl) rfl rfl hv92 hi92) ?_
            refine r_u (o_ldR sc22 rfl hR92 (rok 0 he92 (by decide))) ?_
            refine r_u (o_bin rfl rfl (bW_and x92 3)) ?_
            refine r_u (o_bin rfl rfl (bW_add 1 (x92 &&& 3))) ?_
            refine r_u (o_fa fa24_5 rfl) ?_
            refine r_u0 (o_st sc22 rfl rfl rfl rfl rfl rfl) ?_
            refine r_nil ?_
            refine x_seq ?_
            refine c_seq ?_
            refine c_reg ?_
            refine r_u (o_mv rfl) ?_
            refine r_u (o_ldn 0 [vW ((hawthornlaw21_view 0).V), vI ((hawthornlaw21_view 0).Primary), vW ((hawthornlaw21_view 0).PLife), vI ((hawthornlaw21_view 0).Backup), vW ((hawthornlaw21_view 0).BLife), vW (1 + (x92 &&& 3))] ag24 rfl rfl rfl rfl) ?_
            refine r_u (o_mv rfl) ?_
            refine r_u (o_bin rfl rfl (bI_add i_69 1)) ?_
            refine r_u (o_cv rfl (cIW Try.underlying3 Try.underlying22 (i64 (i_69 + 1)))) ?_
            refine r_u (o_bld [vI 14, vW ((hawthornlaw21_view 0).V), vI ((hawthornlaw21_view 0).Primary), vW ((hawthornlaw21_view 0).PLife), vI ((hawthornlaw21_view 0).Backup), vW ((hawthornlaw21_view 0).BLife), vW (1 + (x92 &&& 3)), vW 0, vI 0, vW 0, vI 0, vW 0, vW 0, vW 0, vB false, vW 0, vW 0, vW 0, vW 0, vI 0, vW 0, vI 0, vW 0, vW 0, vW 0, vI 0, vW 0, vI 0, vW 0, vW 0, vW 0, vW 0, vW 0, .slice none 0 0, vI 0, vI 0, vS [], vS [], vS [], vS [], .slice none 0 0, vW 10, vW (toW (i64 (i_69 + 1))), vI 0, vS [], vS [], vW 0, vW 0, vI 0, vS [], vW 0] rfl (fun _ => by kernel_rfl)) ?_
            obtain ⟨r94, hr94, hm95⟩ := bs hm93
            clear hm93
            refine r_u (o_callq ca18 rfl (hawthornlaw21_told.ok 0 10 (⟨14, (⟨(hawthornlaw21_view 0).V, (hawthornlaw21_view 0).Primary, (hawthornlaw21_view 0).PLife, (hawthornlaw21_view 0).Backup, (hawthornlaw21_view 0).BLife, 1 + (x92 &&& 3)⟩ : api_View), (⟨0, 0, 0, 0, 0, 0⟩ : api_View), 0, (⟨false, 0, 0, 0, (⟨0, 0, 0, 0, 0, 0⟩ : api_View), (⟨0, 0, 0, 0, 0, 0⟩ : api_View)⟩ : api_Promise), 0, 0, 0, [], (⟨0, 0, [], [], []⟩ : api_Piece), [], [], 10, toW (i64 (i_69 + 1)), (⟨0, [], [], 0, 0⟩ : api_Op), (⟨0, [], 0⟩ : api_Reply)⟩ : api_Say) (⟨.slice none 0 0, .slice none 0 0⟩ : api_Say.G) ⟨RoS.nil, RoS.nil⟩ r94 hr94)) ?_
            refine r_u (o_mv rfl) ?_
            obtain ⟨r96, hr96, hm104⟩ := bs hm95
            clear hm95
            refine rl_st (fun _ h => st_pk 7 [2, 3, 4, 5, 0, 1, 6] (by decide) h) ?_
            refine r_sw (s_w (o_call ca17 rfl (client_Client_Handle.ok b82 r88.2 g75 r94 i_69 r96 hr96))) ?_
            rintro v97 R102 _ le103 ⟨_, g98, rfl, _, rfl⟩
            refine r_nil ?_
            refine x_seq ?_
            refine c_seq ?_
            obtain ⟨p105, hp106, hm107⟩ := bs hm104
            refine cd_join (E' := [(0, v0_), (3, g3), (4, g72), (6, pt b82 0), (8, vI i_69), (9, pt b91 0), (78, vB p105)]) (L' := Bk b82 97 [vI r96.2.n, g98.l, vI r96.2.at_, vI r96.2.to, vI r96.2.since, vI r96.2.began, vB r96.2.under, g98.heard, g98.epochs] :: Bk b91 24 [vW ((hawthornlaw21_view 0).V), vI ((hawthornlaw21_view 0).Primary), vW ((hawthornlaw21_view 0).PLife), vI ((hawthornlaw21_view 0).Backup), vW ((hawthornlaw21_view 0).BLife), vW (1 + (x92 &&& 3))] :: OwS true 59 4 api_Packet.c v97 r96.1 :: OwS true 32 5 api_Op.c g98.l r96.2.l :: OwS true 65 9 api_Heard.c g98.heard r96.2.heard :: OwS true 22 1 eW g98.epochs r96.2.epochs :: OwS true 59 4 api_Packet.c v89 r88.1 :: OwS true 22 1 eW g72 want_67 :: F) ?_ fun K108 => ?_
            · refine x_seq ?_
              obtain ⟨p109, hp111, hm112⟩ := bs hm107
              refine cd_cut (fun x ks => ∀ (g110 : Value), EX x .normal ks [(0, v0_), (3, g3), (6, pt b82 0), (8, vI i_69), (4, g110)] R102 (Bk b82 97 [vI r96.2.n, g98.l, vI r96.2.at_, vI r96.2.to, vI r96.2.since, vI r96.2.began, vB r96.2.under, g98.heard, g98.epochs] :: Bk b91 24 [vW ((hawthornlaw21_view 0).V), vI ((hawthornlaw21_view 0).Primary), vW ((hawthornlaw21_view 0).PLife), vI ((hawthornlaw21_view 0).Backup), vW ((hawthornlaw21_view 0).BLife), vW (1 + (x92 &&& 3))] :: OwS true 59 4 api_Packet.c v97 r96.1 :: OwS true 32 5 api_Op.c g98.l r96.2.l :: OwS true 65 9 api_Heard.c g98.heard r96.2.heard :: OwS true 22 1 eW g98.epochs r96.2.epochs :: OwS true 59 4 api_Packet.c v89 r88.1 :: OwS true 22 1 eW g110 p109 :: F)) ?_ fun K113 => ?_
              · intro g110
                refine x_blk ?_
                refine x_seq ?_
                refine c_reg ?_
                refine r_u (o_mv rfl) ?_
                refine r_u (o_bin rfl rfl (bI_add i_69 1)) ?_
                refine r_u (o_as rfl) ?_
                refine r_nil ?_
                refine ex_st (fun _ h => st_pk 8 [0, 3, 4, 5, 1, 2, 6, 7] (by decide) h) ?_
                refine ex_st (fun _ h => st_some (f := client_Client.op g98) (a := r96.2) (st_star_f (A := client_Client.fl b82 r96.2 g98) h)) ?_
                exact x_lp (p109, (some r96.2), i64 (i_69 + 1), g110, (pt b82 0, g98), R102) ⟨hm112, (Le.trans le71 le103)⟩ ⟨rfl, rfl, rfl, rfl, rfl, trivial⟩ (fun _ h => st_pk 5 [4, 0] (by decide) h)
              · refine c_if (b := p105) rfl (fun h114 => ?_) fun h114 => ?_
                · have hm115 := ift hp111 h114
                  clear hp111
                  refine c_reg ?_
                  refine r_u (o_mv rfl) ?_
                  refine r_u (o_fa fa24_5 rfl) ?_
                  refine r_u (o_ld 1 sc22 rfl rfl rfl) ?_
                  refine r_sw (s_w (o_bsl (en := eW) (sz := 1) (e := 22) (cs := [vW (1 + (x92 &&& 3))]) (r := [1 + (x92 &&& 3)]) rfl (fun _ => by kernel_rfl) rfl (by decide) rfl (fun _ => rfl))) ?_
                  rintro v116 R102 _ _ ⟨rfl, rfl⟩
                  obtain ⟨l118, hl118, hm119⟩ := bs hm115
                  clear hm115
                  refine rl_st (fun _ h => st_pk 9 [8, 0, 1, 2, 3, 4, 5, 6, 7] (by decide) h) ?_
                  refine r_sw (s_w (o_ap (sz := 1) (bytes := 8) 0 Try.underlying67 rfl rfl rfl rfl rfl (by decide) (by decide) (fun _ _ _ h => by simp at h; subst h; rfl) (fun _ => rfl) rfl rfl rfl rfl (Nat.succ_pos _) hl118)) ?_
                  rintro v117 R102 _ _ ⟨rfl, rfl⟩
                  refine r_u (o_as rfl) ?_
                  refine r_nil ?_
                  obtain rfl := Option.some.inj hm119
                  exact x_sub (K113 v117) ⟨rfl, rfl, rfl, rfl, rfl, trivial⟩ (fun _ h => st_pk 9 [2, 3, 4, 5, 6, 7, 8, 0] (by decide) h)
                · have hm115 := iff_ hp111 h114
                  clear hp111
                  refine c_skip ?_
                  obtain rfl := Option.some.inj hm115
                  exact x_sub (K113 g72) ⟨rfl, rfl, rfl, rfl, rfl, trivial⟩ (fun _ h => st_pk 8 [0, 1, 2, 3, 4, 5, 6, 7] (by decide) h)
            · refine cd_by ((want_67.length : Int) == 0) (fun h120 => ?_) fun h120 => ?_
              · have hm121 := ift hp106 h120
                clear hp106
                refine c_any mixed (effs := []) (V := []) ?_
                refine stage_ext [(0, g72), (1, vI (want_67.length : Int)), (2, vB ((want_67.length : Int) == 0)), (3, vB ((want_67.length : Int) == 0)), (4, undef), (5, undef), (6, undef), (7, undef), (8, undef), (9, undef), (10, undef), (11, undef), (12, undef), (13, vB true)] rfl ?_
                refine stage rfl rfl rfl rfl [0, 1, 3, 7, 15, 15, 47, 111, 255, 511, 15, 1039, 4095, 8191] [0, 1, 2, 3, 4, 5, 6, 7, 8, 9, 10, 11, 12, 13] [] rfl rfl rfl (qc rfl rfl (s_u (o_mv rfl)) (qc rfl rfl (s_u (o_lenO 7 Try.underlying67 rfl rfl)) (qc rfl rfl (s_u (o_bin rfl rfl (bI_eq (want_67.length : Int) 0))) (qc rfl rfl (s_u (o_mv rfl)) (qc rfl rfl (s_n rfl rfl h120) (qc rfl rfl (s_n rfl rfl h120) (qc rfl rfl (s_n rfl rfl h120) (qc rfl rfl (s_n rfl rfl h120) (qc rfl rfl (s_n rfl rfl h120) (qc rfl rfl (s_n rfl rfl h120) (qc rfl rfl (s_n rfl rfl h120) (qc rfl rfl (s_n rfl rfl h120) (qc rfl rfl (s_n rfl rfl h120) (qc rfl rfl (s_u (o_pt rfl h120 rfl)) qn)))))))))))))) en ?_
                intro _
                refine ex_sub (E' := [(0, v0_), (3, g3), (4, g72), (6, pt b82 0), (8, vI i_69), (9, pt b91 0), (78, vB true)]) ⟨rfl, rfl, rfl, rfl, rfl, rfl, rfl, trivial⟩ ?_
                obtain rfl := Option.some.inj hm121
                exact x_sub K108 ⟨rfl, rfl, rfl, rfl, rfl, rfl, rfl, trivial⟩ (fun _ h => st_pk 8 [1, 5, 0, 2, 3, 4, 6, 7] (by decide) h)
              · have hm121 := iff_ hp106 h120
                clear hp106
                obtain ⟨x122, hx122, hm123⟩ := bs hm121
                clear hm121
                refine c_any mixed (effs := []) (V := []) ?_
                refine stage_ext [(0, g72), (1, vI (want_67.length : Int)), (2, vB ((want_67.length : Int) == 0)), (3, vB ((want_67.length : Int) == 0)), (4, g72), (5, g72), (6, vI (want_67.length : Int)), (7, vI (i64 ((want_67.length : Int) - 1))), (8, pt (sb g72) (so g72 + (i64 ((want_67.length : Int) - 1)).toNat * 1)), (9, vW x122), (10, pt b91 5), (11, vW (1 + (x92 &&& 3))), (12, vB (x122 != (1 + (x92 &&& 3)))), (13, vB (x122 != (1 + (x92 &&& 3))))] rfl ?_
                refine stage rfl rfl rfl rfl [0, 1, 3, 7, 15, 15, 47, 111, 255, 511, 15, 1039, 4095, 8191] [0, 1, 2, 3, 4, 5, 6, 7, 8, 9, 10, 11, 12, 13] [] rfl rfl rfl (qc rfl rfl (s_u (o_mv rfl)) (qc rfl rfl (s_u (o_lenO 7 Try.underlying67 rfl rfl)) (qc rfl rfl (s_u (o_bin rfl rfl (bI_eq (want_67.length : Int) 0))) (qc rfl rfl (s_u (o_mv rfl)) (qc rfl rfl (s_y rfl rfl h120 (o_mv rfl)) (qc rfl rfl (s_y rfl rfl h120 (o_mv rfl)) (qc rfl rfl (s_y rfl rfl h120 (o_lenO 7 Try.underlying67 rfl rfl)) (qc rfl rfl (s_y rfl rfl h120 (o_bin rfl rfl (bI_sub (want_67.length : Int) 1))) (qc rfl rfl (s_y rfl rfl h120 (o_ixO 7 Try.underlying67 (fun _ => by kernel_rfl) rfl rfl rfl hx122)) (qc rfl rfl (s_y rfl rfl h120 (o_ldO0 7 sc22 rfl rfl hx122 rfl rfl)) (qc rfl rfl (s_y rfl rfl h120 (o_fa fa24_5 rfl)) (qc rfl rfl (s_y rfl rfl h120 (o_ld 5 sc22 rfl rfl rfl)) (qc rfl rfl (s_y rfl rfl h120 (o_bin rfl rfl (bW_ne x122 (1 + (x92 &&& 3))))) (qc rfl rfl (s_u (o_pf rfl h120 rfl)) qn)))))))))))))) en ?_
                intro _
                refine ex_sub (E' := [(0, v0_), (3, g3), (4, g72), (6, pt b82 0), (8, vI i_69), (9, pt b91 0), (78, vB (x122 != (1 + (x92 &&& 3))))]) ⟨rfl, rfl, rfl, rfl, rfl, rfl, rfl, trivial⟩ ?_
                obtain rfl := Option.some.inj hm123
                exact x_sub K108 ⟨rfl, rfl, rfl, rfl, rfl, rfl, rfl, trivial⟩ (fun _ h => st_pk 8 [1, 5, 0, 2, 3, 4, 6, 7] (by decide) h)
        · have hm80 := iff_ hm77 h79
          clear hm77
          refine c_exit (x_exit (ks' := _) rfl ?_)
          obtain rfl := Option.some.inj hm80
          exact x_sub (K31 _ le71 g72 (pv74, g75)) ⟨rfl, rfl, trivial⟩ (fun _ h => st_pk 2 [0, 1] (by decide) h)
  · refine c_blk ?_
    refine cd_loopG (M := fun k127 (s : List api_Op × Int × Value) => hawthornlaw21_ClientEpochs_l2 a0 k127 s.1 s.2.1 = some p2) (Ef := fun (s : List api_Op × Int × Value) => [(0, v0_), (4, v1), (3, s.2.2), (5, vI s.2.1)]) (Rf := fun (s : List api_Op × Int × Value) => R) (Lf := fun (s : List api_Op × Int × Value) => OwS true 22 1 eW v1 [] :: OwS true 32 5 api_Op.c s.2.2 s.1 :: F) (((a0.length : Int) - 0).toNat + 1) ([], 0, v0) hp4 ⟨rfl, rfl, rfl, rfl, trivial⟩ (fun _ h => st_pk 2 [0, 1] (by decide) h) (fun _ h => by cases h) fun k127 s hM129 => ?_
    obtain ⟨calls_124, i_125, g126⟩ := s
    have hm128 : hawthornlaw21_ClientEpochs_l2 a0 (k127 + 1) calls_124 i_125 = some p2 := hM129
    rw [hawthornlaw21_ClientEpochs_l2] at hm128
    refine c_seq ?_
    refine c_seq ?_
    refine c_reg ?_
    refine r_u (o_mv rfl) ?_
    refine r_u (o_mv rfl) ?_
    refine r_u (o_lenR Try.underlying67 rfl h0_) ?_
    refine r_u (o_bin rfl rfl (bI_lt i_125 (a0.length : Int))) ?_
    refine r_u (o_mv rfl) ?_
    refine r_s (s_gt rfl rfl fun g => o_mv rfl) ?_
    refine r_s (s_gt rfl rfl fun g => o_bin (evg rfl g) rfl (bI_lt i_125 20)) ?_
    refine r_u (o_and rfl rfl) ?_
    refine r_nil ?_
    refine x_seq ?_
    refine c_if (b := (decide (i_125 < (a0.length : Int)) && decide (i_125 < 20))) rfl (fun h130 => ?_) fun h130 => ?_
    · have hm131 := ift hm128 h130
      clear hm128
      refine c_skip ?_
      refine x_seq ?_
      refine c_seq ?_
      refine c_blk ?_
      refine c_reg ?_
      refine r_u (o_mv rfl) ?_
      refine r_u (o_callq ca22 rfl (hawthornlaw21_get.ok _ rfl)) ?_
      refine r_sw (s_w (o_bsl (en := api_Op.c) (sz := 5) (e := 32) (cs := [vI hawthornlaw21_get.Kind, vS hawthornlaw21_get.Key, vS hawthornlaw21_get.Value, vW hawthornlaw21_get.TTL, vW hawthornlaw21_get.Version]) (r := [hawthornlaw21_get]) rfl (fun _ => by kernel_rfl) rfl (by decide) rfl (fun _ => rfl))) ?_
      rintro v132 R _ _ ⟨rfl, rfl⟩
      obtain ⟨l134, hl134, hm135⟩ := bs hm131
      clear hm131
      refine rl_st (fun _ h => st_pk 3 [2, 0, 1] (by decide) h) ?_
      refine r_sw (s_w (o_ap (sz := 5) (bytes := 56) 0 Try.underlying48 rfl rfl rfl rfl rfl (by decide) (by decide) (fun _ _ _ h => by simp [api_Op.c] at h; rcases h with rfl | rfl | rfl | rfl | rfl <;> rfl) (fun _ => rfl) rfl rfl rfl rfl (Nat.succ_pos _) hl134)) ?_
      rintro v133 R _ _ ⟨rfl, rfl⟩
      refine r_u (o_as rfl) ?_
      refine r_nil ?_
      refine x_blk ?_
      refine x_seq ?_
      refine c_reg ?_
      refine r_u (o_mv rfl) ?_
      refine r_u (o_bin rfl rfl (bI_add i_125 1)) ?_
      refine r_u (o_as rfl) ?_
      refine r_nil ?_
      exact x_lp (l134, i64 (i_125 + 1), v133) hm135 ⟨rfl, rfl, rfl, rfl, trivial⟩ (fun _ h => st_pk 3 [2, 0] (by decide) h)
    · have hm131 := iff_ hm128 h130
      clear hm128
      refine c_exit (x_exit (ks' := _) rfl ?_)
      obtain rfl := Option.some.inj hm131
      exact x_sub (K6 g126) ⟨rfl, rfl, rfl, trivial⟩ (fun _ h => st_pk 2 [0, 1] (by decide) h)

end Go.Proofs.Ythngfieikhillaa
