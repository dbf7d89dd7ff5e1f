import Derived.Test.YthngfieikhillaaW7
import Derived.Test.YthngfieikhillaaFacts
import Derived.Test.YthngfieikhillaaHwU
set_option linter.unusedVariables false
set_option linter.unusedSectionVars false
set_option linter.unusedSimpArgs false
set_option maxRecDepth 100000
set_option maxHeartbeats 8000000
namespace Go.Proofs.Ythngfieikhillaa
open Go Go.Proofs.Ythngfieikhillaa.Hw
def hawthornlaw21_ClientPlays_l0 (r38 : List api_Heard) : Nat → Int → Option (Unit ⊕ Bool)
  | 0, _ => none
  | k47 + 1, i_46 => if decide (i_46 < (r38.length : Int)) then (gi r38 i_46).bind fun x52 => if ((((x52.Num != (toW (i64 (i_46 + 1)))) || (x52.V != 3)) || (x52.Epoch != 2)) || decide (x52.Ended < x52.Began)) then some (Sum.inr false) else hawthornlaw21_ClientPlays_l0 r38 k47 (i64 (i_46 + 1)) else some (Sum.inl ())
def hawthornlaw21_ClientPlays_l1 (a1 : List hawthornlaw21_Act) (p1 : List api_Op) : Nat → (Option client_Client) → Int → Int → Int → Bool → Int → Int → Option ((Option client_Client) ⊕ Bool)
  | 0, _, _, _, _, _, _, _ => none
  | k68 + 1, c_56, at_57, to_58, since_59, under_60, heard_61, i_62 => if (decide (i_62 < (a1.length : Int)) && decide (i_62 < 80)) then (gi a1 i_62).bind fun x73 => Option.bind (if (x73.Kind == 0) then some (x73.Kind == 0) else some (x73.Kind == 1)) fun p76 => Option.bind (if p76 then om c_56 (none) fun x144 => (client_Client_Tick x144 i_62).bind fun r151 => Option.bind (if (decide (at_57 < (p1.length : Int)) && !under_60) then some (to_58, 0, true, true) else Option.bind (if decide (at_57 < (p1.length : Int)) then Option.bind (if decide (5 ≤ (i64 (since_59 + 1))) then some (i64 (1 - to_58), 0, true) else some (to_58, i64 (since_59 + 1), false)) fun p166 => some (p166.1, p166.2.1, p166.2.2) else some (to_58, since_59, false)) fun p160 => some (p160.1, p160.2.1, under_60, p160.2.2)) fun p154 => some ((some r151.2), at_57, p154.1, p154.2.1, p154.2.2.1, heard_61, r151.1, p154.2.2.2) else Option.bind (if (x73.Kind == 2) then (hawthornlaw21_told (iand x73.From 1) 12 (⟨14, (hawthornlaw21_view (iand x73.From 1)), (⟨0, 0, 0, 0, 0, 0⟩ : api_View), 0, (⟨false, 0, 0, 0, (⟨0, 0, 0, 0, 0, 0⟩ : api_View), (⟨0, 0, 0, 0, 0, 0⟩ : api_View)⟩ : api_Promise), toW i_62, 0, 0, [], (⟨0, 0, [], [], []⟩ : api_Piece), [], [], 12, (toW (i64 (at_57 + 1))) + (toW (iand x73.Off 1)), (⟨0, [], [], 0, 0⟩ : api_Op), (⟨0, [], 0⟩ : api_Reply)⟩ : api_Say)).bind fun r185 => om c_56 (none) fun x187 => (client_Client_Handle x187 r185 i_62).bind fun r194 => Option.bind (if ((decide (at_57 < (p1.length : Int)) && under_60) && ((iand x73.Off 1) == 0)) then some (i64 (at_57 + 1), false, i64 (heard_61 + 1)) else some (at_57, under_60, heard_61)) fun p203 => some ((some r194.2), p203.1, to_58, since_59, p203.2.1, p203.2.2, r194.1, false) else Option.bind (if (x73.Kind == 3) then (hawthornlaw21_told (iand x73.From 1) 12 (⟨15, (hawthornlaw21_view (iand x73.Off 1)), (⟨0, 0, 0, 0, 0, 0⟩ : api_View), 0, (⟨false, 0, 0, 0, (⟨0, 0, 0, 0, 0, 0⟩ : api_View), (⟨0, 0, 0, 0, 0, 0⟩ : api_View)⟩ : api_Promise), 0, 0, 0, [], (⟨0, 0, [], [], []⟩ : api_Piece), [], [], 0, 0, (⟨0, [], [], 0, 0⟩ : api_Op), (⟨0, [], 0⟩ : api_Reply)⟩ : api_Say)).bind fun r222 => om c_56 (none) fun x224 => (client_Client_Handle x224 r222 i_62).bind fun r231 => Option.bind (if (((decide (at_57 < (p1.length : Int)) && under_60) && (((hawthornlaw21_view (iand x73.Off 1)).Primary) == (i64 (1 - (iand x73.From 1))))) && (to_58 != ((hawthornlaw21_view (iand x73.Off 1)).Primary))) then some ((hawthornlaw21_view (iand x73.Off 1)).Primary, 0, true) else some (to_58, since_59, false)) fun p240 => some ((some r231.2), p240.1, p240.2.1, r231.1, p240.2.2) else Option.bind (if (x73.Kind == 4) then (hawthornlaw21_told (iand x73.From 1) 12 (⟨14, (hawthornlaw21_view (iand x73.From 1)), (⟨0, 0, 0, 0, 0, 0⟩ : api_View), 0, (⟨false, 0, 0, 0, (⟨0, 0, 0, 0, 0, 0⟩ : api_View), (⟨0, 0, 0, 0, 0, 0⟩ : api_View)⟩ : api_Promise), 0, 0, 0, [], (⟨0, 0, [], [], []⟩ : api_Piece), [], [], 12, toW (i64 (at_57 + 1)), (⟨0, [], [], 0, 0⟩ : api_Op), (⟨130, [], 0⟩ : api_Reply)⟩ : api_Say)).bind fun r259 => om c_56 (none) fun x261 => (client_Client_Handle x261 r259 i_62).bind fun r268 => some ((some r268.2), r268.1) else om c_56 (none) fun x277 => (client_Client_Handle x277 (⟨iand x73.From 1, 12, [119, 104, 97, 116], false⟩ : api_Packet) i_62).bind fun r284 => some ((some r284.2), r284.1)) fun p246 => some (p246.1, to_58, since_59, p246.2, false)) fun p209 => some (p209.1, at_57, p209.2.1, p209.2.2.1, under_60, heard_61, p209.2.2.2.1, p209.2.2.2.2)) fun p172 => some (p172.1, p172.2.1, p172.2.2.1, p172.2.2.2.1, p172.2.2.2.2.1, p172.2.2.2.2.2.1, p172.2.2.2.2.2.2.1, p172.2.2.2.2.2.2.2)) fun p80 => Option.bind (if p80.2.2.2.2.2.2.2 then (gi p1 p80.2.1).bind fun x118 => (hawthornlaw21_asks p80.2.2.2.2.2.2.1 12 p80.2.2.1 (toW (i64 (p80.2.1 + 1))) x118).bind fun r124 => Option.bind (if r124 then some false else some true) fun p126 => some p126 else some ((p80.2.2.2.2.2.2.1.length : Int) != 0)) fun p90 => if p90 then some (Sum.inr false) else om p80.1 (none) fun x98 => Option.bind (if ((client_Client_Ended x98) != (decide ((p1.length : Int) ≤ p80.2.1))) then some true else (client_Client_Heard x98).bind fun r113 => some ((r113.length : Int) != p80.2.2.2.2.2.1)) fun p105 => if p105 then some (Sum.inr false) else hawthornlaw21_ClientPlays_l1 a1 p1 k68 (some x98) p80.2.1 p80.2.2.1 p80.2.2.2.1 p80.2.2.2.2.1 p80.2.2.2.2.2.1 (i64 (i_62 + 1)) else some (Sum.inl c_56)
def hawthornlaw21_ClientPlays_l2 (a0 : Int) : Nat → (List api_Op) → Int → Option (List api_Op)
  | 0, _, _ => none
  | k298 + 1, calls_295, i_296 => if decide (i_296 < (iand a0 7)) then (apd 56 calls_295 [(⟨2, [107], [toY (i64 (97 + i_296))], 0, 0⟩ : api_Op)]).bind fun l306 => hawthornlaw21_ClientPlays_l2 a0 k298 l306 (i64 (i_296 + 1)) else some calls_295
def hawthornlaw21_ClientPlays (a0 : Int) (a1 : List hawthornlaw21_Act) : Option Bool :=
  Option.bind (hawthornlaw21_ClientPlays_l2 a0 (((iand a0 7) - 0).toNat + 1) [] 0) fun p1 => (client_New 12 p1).bind fun r10 => (hawthornlaw21_awake).bind fun r15 => if (!r15 || (r10.2 != 0)) then some false else Option.bind (hawthornlaw21_ClientPlays_l1 a1 p1 (((a1.length : Int) - 0).toNat + 1) r10.1 0 0 0 false 0 0) fun (p21 : (Option client_Client) ⊕ Bool) => (match p21 with | Sum.inl q22 => om q22 (none) fun x31 => (client_Client_Heard x31).bind fun r38 => Option.bind (hawthornlaw21_ClientPlays_l0 r38 (((r38.length : Int) - 0).toNat + 1) 0) fun (p41 : Unit ⊕ Bool) => (match p41 with | Sum.inl q42 => some true | Sum.inr r => some r) | Sum.inr r => some r)
theorem hawthornlaw21_ClientPlays.ok {G R F} (a0 : Int) (v1_ : Value) (a1 : List hawthornlaw21_Act) (h1_ : RoS R v1_ 3 hawthornlaw21_Act.c a1) (r : Bool) (hm : hawthornlaw21_ClientPlays a0 a1 = some r) : CO Try.prog 4 [vI a0, v1_] G R (F)
    (Ret fun u R' L' => u = vB r ∧ True ∧ L' = F) := by
  unfold hawthornlaw21_ClientPlays at hm
  refine co_ofN (N := 270) Try.func4 rfl rfl ?_
  refine c_seq ?_
  refine c_reg ?_
  refine r_u (o_as rfl) ?_
  refine r_nil ?_
  refine x_seq ?_
  refine c_seq ?_
  refine c_reg ?_
  refine r_sw (s_w (o_bsl (en := api_Op.c) (sz := 5) (e := 32) (cs := []) (r := []) rfl (fun _ => by kernel_rfl) rfl (by decide) rfl (fun _ => rfl))) ?_
  rintro v0 R _ _ ⟨rfl, rfl⟩
  refine r_u (o_as rfl) ?_
  refine r_nil ?_
  refine x_seq ?_
  refine c_seq ?_
  refine c_seq ?_
  refine c_reg ?_
  refine r_u (o_as rfl) ?_
  refine r_nil ?_
  refine x_seq ?_
  obtain ⟨p1, hp3, hm4⟩ := bs hm
  refine cd_cut (fun x ks => ∀ (g2 : Value), EX x .normal ks [(1, v1_), (5, g2)] R (OwS true 32 5 api_Op.c g2 p1 :: F)) ?_ fun K5 => ?_
  · intro g2
    refine x_seq ?_
    refine c_seq ?_
    refine c_reg ?_
    refine r_u (o_mv rfl) ?_
    refine rl_ex (fun w h => st_freeze w h) fun R6 hf9 => ?_
    obtain ⟨le7, h8⟩ := hf9
    obtain ⟨r10, hr10, hm14⟩ := bs hm4
    clear hm4
    refine r_sw (s_w (o_call ca13 rfl (client_New.ok 12 g2 p1 h8 r10 hr10))) ?_
    rintro _ R6 _ _ ⟨⟨pv12, g13⟩, rfl, rfl, rfl⟩
    refine r_u (o_mv rfl) ?_
    refine r_u (o_ext rfl rfl) ?_
    refine r_u (o_ext rfl rfl) ?_
    refine r_u (o_as rfl) ?_
    refine r_u (o_as rfl) ?_
    refine r_nil ?_
    refine x_seq ?_
    refine c_seq ?_
    refine c_seq ?_
    refine c_reg ?_
    obtain ⟨r15, hr15, hm18⟩ := bs hm14
    clear hm14
    refine r_sw (s_w (o_call ca14 rfl (hawthornlaw21_awake.ok r15 hr15))) ?_
    rintro _ R16 _ le17 ⟨rfl, _, rfl⟩
    refine r_u (o_not rfl) ?_
    refine r_u (o_mv rfl) ?_
    refine r_s (s_gf rfl rfl fun g => o_mv rfl) ?_
    refine r_s (s_gf rfl rfl fun g => o_bin (evg rfl g) rfl (bI_ne r10.2 0)) ?_
    refine r_u (o_or rfl rfl) ?_
    refine r_nil ?_
    refine x_seq ?_
    refine c_if (b := (!r15 || (r10.2 != 0))) rfl (fun h19 => ?_) fun h19 => ?_
    · have hm20 := ift hm18 h19
      clear hm18
      refine c_seq ?_
      refine c_reg ?_
      refine r_u (o_as rfl) ?_
      refine r_nil ?_
      refine x_seq ?_
      refine c_ret ?_
      obtain rfl := Option.some.inj hm20
      refine ex_st (fun _ h => st_pk 1 [] (by decide) h) ?_
      exact x_r1 rfl (rv_t rfl) (Le.trans le7 le17) ⟨_, rfl, rfl, trivial, rfl⟩
    · have hm20 := iff_ hm18 h19
      clear hm18
      refine c_skip ?_
      refine x_seq ?_
      refine c_seq ?_
      refine c_reg ?_
      refine r_u (o_as rfl) ?_
      refine r_u (o_as rfl) ?_
      refine r_u (o_as rfl) ?_
      refine r_u (o_as rfl) ?_
      refine r_u (o_as rfl) ?_
      refine r_nil ?_
      refine x_seq ?_
      refine c_seq ?_
      refine c_seq ?_
      refine c_reg ?_
      refine r_u (o_as rfl) ?_
      refine r_nil ?_
      refine x_seq ?_
      obtain ⟨p21, hp28, hm29⟩ := bs hm20
      refine cd_cut (fun x ks => ∀ (q22 : Option client_Client), ∀ (_ : p21 = Sum.inl q22), ∀ (R23 : PH), ∀ (le24 : Le R16 R23), ∀ (pv25 : Value × client_Client.G), EX x .normal ks [(7, pv25.1)] R23 (rO (client_Client.op pv25.2) pv25.1 q22 :: F)) ?_ fun K30 => ?_
      · intro q22 hq R23 le24 pv25
        subst hq
        try dsimp only at hm29
        obtain ⟨pv26, g27⟩ := pv25
        refine x_seq ?_
        refine c_seq ?_
        refine cd_opt (fun ho33 => ?_) (fun x31 b32 ho33 => ?_)
        · rintro rfl
          have hm34 := om_n hm29 ho33
          clear hm29
          cases hm34
        · rintro rfl
          have hm34 := om_s hm29 ho33
          clear hm29
          refine cd_st (fun _ h => st_star_o h) ?_
          refine c_reg ?_
          refine r_u (o_mv rfl) ?_
          obtain ⟨r38, hr38, hm40⟩ := bs hm34
          clear hm34
          refine r_sw (s_w (o_call ca21 rfl (client_Client_Heard.ok b32 x31 g27 r38 hr38))) ?_
          rintro v39 R23 _ _ ⟨_, rfl, rfl, rfl⟩
          refine r_u (o_as rfl) ?_
          refine r_nil ?_
          refine x_seq ?_
          refine c_seq ?_
          refine c_seq ?_
          refine c_reg ?_
          refine r_u (o_as rfl) ?_
          refine r_nil ?_
          refine x_seq ?_
          obtain ⟨p41, hp43, hm44⟩ := bs hm40
          refine cd_joinS (p := p41) (Ef := fun q42 => []) (Lf := fun q42 => Bk b32 97 [vI x31.n, g27.l, vI x31.at_, vI x31.to, vI x31.since, vI x31.began, vB x31.under, g27.heard, g27.epochs] :: OwS true 65 9 api_Heard.c v39 r38 :: OwS true 32 5 api_Op.c g27.l x31.l :: OwS true 65 9 api_Heard.c g27.heard x31.heard :: OwS true 22 1 eW g27.epochs x31.epochs :: F) (fun q42 hq => ?_) fun K45 => ?_
          · subst hq
            try dsimp only at hm44
            refine x_seq ?_
            refine c_seq ?_
            refine c_reg ?_
            refine r_u (o_as rfl) ?_
            refine r_nil ?_
            refine x_seq ?_
            refine c_ret ?_
            obtain rfl := Option.some.inj hm44
            refine ex_st (fun _ h => st_pk 5 [] (by decide) h) ?_
            exact x_r1 rfl (rv_t rfl) (Le.trans (Le.trans le7 le17) le24) ⟨_, rfl, rfl, trivial, rfl⟩
          · refine c_blk ?_
            refine cd_loop (M := fun k47 (i_46 : Int) => hawthornlaw21_ClientPlays_l0 r38 k47 i_46 = some p41) (Ef := fun (i_46 : Int) => [(22, v39), (23, vI i_46)]) (Lf := fun (i_46 : Int) => Bk b32 97 [vI x31.n, g27.l, vI x31.at_, vI x31.to, vI x31.since, vI x31.began, vB x31.under, g27.heard, g27.epochs] :: OwS true 65 9 api_Heard.c v39 r38 :: OwS true 32 5 api_Op.c g27.l x31.l :: OwS true 65 9 api_Heard.c g27.heard x31.heard :: OwS true 22 1 eW g27.epochs x31.epochs :: F) (((r38.length : Int) - 0).toNat + 1) 0 hp43 ⟨rfl, rfl, trivial⟩ (fun _ h => st_pk 5 [1, 0, 2, 3, 4] (by decide) h) (fun _ h => by cases h) fun k47 i_46 hM49 => ?_
            have hm48 : hawthornlaw21_ClientPlays_l0 r38 (k47 + 1) i_46 = some p41 := hM49
            rw [hawthornlaw21_ClientPlays_l0] at hm48
            refine c_seq ?_
            refine c_seq ?_
            refine c_reg ?_
            refine r_u (o_mv rfl) ?_
            refine r_u (o_mv rfl) ?_
            refine r_u (o_lenO 1 Try.underlying62 rfl rfl) ?_
            refine r_u (o_bin rfl rfl (bI_lt i_46 (r38.length : Int))) ?_
            refine r_nil ?_
            refine x_seq ?_
            refine c_if (b := decide (i_46 < (r38.length : Int))) rfl (fun h50 => ?_) fun h50 => ?_
            · have hm51 := ift hm48 h50
              clear hm48
              refine c_skip ?_
              refine x_seq ?_
              refine c_seq ?_
              refine c_blk ?_
              refine c_seq ?_
              obtain ⟨x52, hx52, hm53⟩ := bs hm51
              clear hm51
              refine c_any mixed (effs := []) (V := []) ?_
              refine stage_ext [(0, v39), (1, vI i_46), (2, pt (sb v39) (so v39 + i_46.toNat * 9)), (3, pt (sb v39) (so v39 + i_46.toNat * 9)), (4, vW x52.Num), (5, vI i_46), (6, vI (i64 (i_46 + 1))), (7, vW (toW (i64 (i_46 + 1)))), (8, vB (x52.Num != (toW (i64 (i_46 + 1))))), (9, vB (x52.Num != (toW (i64 (i_46 + 1))))), (10, gv (!(x52.Num != (toW (i64 (i_46 + 1))))) v39), (11, gv (!(x52.Num != (toW (i64 (i_46 + 1))))) (vI i_46)), (12, gv (!(x52.Num != (toW (i64 (i_46 + 1))))) (pt (sb v39) (so v39 + i_46.toNat * 9))), (13, gv (!(x52.Num != (toW (i64 (i_46 + 1))))) (pt (sb v39) (so v39 + i_46.toNat * 9 + 2))), (14, gv (!(x52.Num != (toW (i64 (i_46 + 1))))) (vW x52.V)), (15, gv (!(x52.Num != (toW (i64 (i_46 + 1))))) (vB (x52.V != 3))), (16, vB ((x52.Num != (toW (i64 (i_46 + 1)))) || (x52.V != 3))), (17, vB ((x52.Num != (toW (i64 (i_46 + 1)))) || (x52.V != 3))), (18, gv (!((x52.Num != (toW (i64 (i_46 + 1)))) || (x52.V != 3))) v39), (19, gv (!((x52.Num != (toW (i64 (i_46 + 1)))) || (x52.V != 3))) (vI i_46)), (20, gv (!((x52.Num != (toW (i64 (i_46 + 1)))) || (x52.V != 3))) (pt (sb v39) (so v39 + i_46.toNat * 9))), (21, gv (!((x52.Num != (toW (i64 (i_46 + 1)))) || (x52.V != 3))) (pt (sb v39) (so v39 + i_46.toNat * 9 + 1))), (22, gv (!((x52.Num != (toW (i64 (i_46 + 1)))) || (x52.V != 3))) (vW x52.Epoch)), (23, gv (!((x52.Num != (toW (i64 (i_46 + 1)))) || (x52.V != 3))) (vB (x52.Epoch != 2))), (24, vB (((x52.Num != (toW (i64 (i_46 + 1)))) || (x52.V != 3)) || (x52.Epoch != 2))), (25, vB (((x52.Num != (toW (i64 (i_46 + 1)))) || (x52.V != 3)) || (x52.Epoch != 2))), (26, gv (!(((x52.Num != (toW (i64 (i_46 + 1)))) || (x52.V != 3)) || (x52.Epoch != 2))) v39), (27, gv (!(((x52.Num != (toW (i64 (i_46 + 1)))) || (x52.V != 3)) || (x52.Epoch != 2))) (vI i_46)), (28, gv (!(((x52.Num != (toW (i64 (i_46 + 1)))) || (x52.V != 3)) || (x52.Epoch != 2))) (pt (sb v39) (so v39 + i_46.toNat * 9))), (29, gv (!(((x52.Num != (toW (i64 (i_46 + 1)))) || (x52.V != 3)) || (x52.Epoch != 2))) (pt (sb v39) (so v39 + i_46.toNat * 9 + 8))), (30, gv (!(((x52.Num != (toW (i64 (i_46 + 1)))) || (x52.V != 3)) || (x52.Epoch != 2))) (vI x52.Ended)), (31, gv (!(((x52.Num != (toW (i64 (i_46 + 1)))) || (x52.V != 3)) || (x52.Epoch != 2))) v39), (32, gv (!(((x52.Num != (toW (i64 (i_46 + 1)))) || (x52.V != 3)) || (x52.Epoch != 2))) (vI i_46)), (33, gv (!(((x52.Num != (toW (i64 (i_46 + 1)))) || (x52.V != 3)) || (x52.Epoch != 2))) (pt (sb v39) (so v39 + i_46.toNat * 9))), (34, gv (!(((x52.Num != (toW (i64 (i_46 + 1)))) || (x52.V != 3)) || (x52.Epoch != 2))) (pt (sb v39) (so v39 + i_46.toNat * 9 + 7))), (35, gv (!(((x52.Num != (toW (i64 (i_46 + 1)))) || (x52.V != 3)) || (x52.Epoch != 2))) (vI x52.Began)), (36, gv (!(((x52.Num != (toW (i64 (i_46 + 1)))) || (x52.V != 3)) || (x52.Epoch != 2))) (vB (decide (x52.Ended < x52.Began)))), (37, vB ((((x52.Num != (toW (i64 (i_46 + 1)))) || (x52.V != 3)) || (x52.Epoch != 2)) || decide (x52.Ended < x52.Began)))] rfl ?_
              refine stage rfl rfl rfl rfl [0, 0, 3, 7, 15, 0, 32, 96, 255, 511, 1023, 1023, 4095, 8191, 16383, 32767, 65535, 131071, 262143, 262143, 1048575, 2097151, 4194303, 8388607, 16777215, 33554431, 67108863, 67108863, 268435455, 536870911, 1073741823, 67108863, 67108863, 6509559807, 15099494399, 32279363583, 68719476735, 137438953471] [0, 1, 2, 3, 4, 5, 6, 7, 8, 9, 10, 11, 12, 13, 14, 15, 16, 17, 18, 19, 20, 21, 22, 23, 24, 25, 26, 27, 28, 29, 30, 31, 32, 33, 34, 35, 36, 37] [] rfl rfl rfl (qc rfl rfl (s_u (o_mv rfl)) (qc rfl rfl (s_u (o_mv rfl)) (qc rfl rfl (s_u (o_ixO 1 Try.underlying62 (fun _ => by kernel_rfl) rfl rfl rfl hx52)) (qc rfl rfl (s_u (o_fa fa65_0 rfl)) (qc rfl rfl (s_u (o_ldO0 1 sc22 rfl rfl hx52 rfl rfl)) (qc rfl rfl (s_u (o_mv rfl)) (qc rfl rfl (s_u (o_bin rfl rfl (bI_add i_46 1))) (qc rfl rfl (s_u (o_cv rfl (cIW Try.underlying3 Try.underlying22 (i64 (i_46 + 1))))) (qc rfl rfl (s_u (o_bin rfl rfl (bW_ne x52.Num (toW (i64 (i_46 + 1)))))) (qc rfl rfl (s_u (o_mv rfl)) (qc rfl rfl (s_gf rfl rfl fun g => o_mv rfl) (qc rfl rfl (s_gf rfl rfl fun g => o_mv rfl) (qc rfl rfl (s_gf rfl rfl fun g => o_ixO 1 Try.underlying62 (fun _ => by kernel_rfl) (evg rfl g) (evg rfl g) rfl hx52) (qc rfl rfl (s_gf rfl rfl fun g => o_fa fa65_2 (evg rfl g)) (qc rfl rfl (s_gf rfl rfl fun g => o_ldO 1 2 sc22 (evg rfl g) rfl hx52 rfl rfl) (qc rfl rfl (s_gf rfl rfl fun g => o_bin (evg rfl g) rfl (bW_ne x52.V 3)) (qc rfl rfl (s_u (o_or rfl rfl)) (qc rfl rfl (s_u (o_mv rfl)) (qc rfl rfl (s_gf rfl rfl fun g => o_mv rfl) (qc rfl rfl (s_gf rfl rfl fun g => o_mv rfl) (qc rfl rfl (s_gf rfl rfl fun g => o_ixO 1 Try.underlying62 (fun _ => by kernel_rfl) (evg rfl g) (evg rfl g) rfl hx52) (qc rfl rfl (s_gf rfl rfl fun g => o_fa fa65_1 (evg rfl g)) (qc rfl rfl (s_gf rfl rfl fun g => o_ldO 1 1 sc22 (evg rfl g) rfl hx52 rfl rfl) (qc rfl rfl (s_gf rfl rfl fun g => o_bin (evg rfl g) rfl (bW_ne x52.Epoch 2)) (qc rfl rfl (s_u (o_or rfl rfl)) (qc rfl rfl (s_u (o_mv rfl)) (qc rfl rfl (s_gf rfl rfl fun g => o_mv rfl) (qc rfl rfl (s_gf rfl rfl fun g => o_mv rfl) (qc rfl rfl (s_gf rfl rfl fun g => o_ixO 1 Try.underlying62 (fun _ => by kernel_rfl) (evg rfl g) (evg rfl g) rfl hx52) (qc rfl rfl (s_gf rfl rfl fun g => o_fa fa65_6 (evg rfl g)) (qc rfl rfl (s_gf rfl rfl fun g => o_ldO 1 8 sc3 (evg rfl g) rfl hx52 rfl rfl) (qc rfl rfl (s_gf rfl rfl fun g => o_mv rfl) (qc rfl rfl (s_gf rfl rfl fun g => o_mv rfl) (qc rfl rfl (s_gf rfl rfl fun g => o_ixO 1 Try.underlying62 (fun _ => by kernel_rfl) (evg rfl g) (evg rfl g) rfl hx52) (qc rfl rfl (s_gf rfl rfl fun g => o_fa fa65_5 (evg rfl g)) (qc rfl rfl (s_gf rfl rfl fun g => o_ldO 1 7 sc3 (evg rfl g) rfl hx52 rfl rfl) (qc rfl rfl (s_gf rfl rfl fun g => o_bin (evg rfl g) (evg rfl g) (bI_lt x52.Ended x52.Began)) (qc rfl rfl (s_u (o_or rfl rfl)) qn)))))))))))))))))))))))))))))))))))))) en ?_
              intro _
              refine ex_sub (E' := [(22, v39), (23, vI i_46), (269, vB ((((x52.Num != (toW (i64 (i_46 + 1)))) || (x52.V != 3)) || (x52.Epoch != 2)) || decide (x52.Ended < x52.Began)))]) ⟨rfl, rfl, rfl, trivial⟩ ?_
              refine x_seq ?_
              refine c_if (b := ((((x52.Num != (toW (i64 (i_46 + 1)))) || (x52.V != 3)) || (x52.Epoch != 2)) || decide (x52.Ended < x52.Began))) rfl (fun h54 => ?_) fun h54 => ?_
              · have hm55 := ift hm53 h54
                clear hm53
                refine c_seq ?_
                refine c_reg ?_
                refine r_u (o_as rfl) ?_
                refine r_nil ?_
                refine x_seq ?_
                refine c_ret ?_
                obtain rfl := Option.some.inj hm55
                try dsimp only at hm44
                obtain rfl := Option.some.inj hm44
                refine ex_st (fun _ h => st_pk 5 [] (by decide) h) ?_
                exact x_r1 rfl (rv_t rfl) (Le.trans (Le.trans le7 le17) le24) ⟨_, rfl, rfl, trivial, rfl⟩
              · have hm55 := iff_ hm53 h54
                clear hm53
                refine c_skip ?_
                refine x_blk ?_
                refine x_seq ?_
                refine c_reg ?_
                refine r_u (o_mv rfl) ?_
                refine r_u (o_bin rfl rfl (bI_add i_46 1)) ?_
                refine r_u (o_as rfl) ?_
                refine r_nil ?_
                exact x_lp (i64 (i_46 + 1)) hm55 ⟨rfl, rfl, trivial⟩ (fun _ h => st_pk 5 [0, 1, 2, 3, 4] (by decide) h)
            · have hm51 := iff_ hm48 h50
              clear hm48
              refine c_exit (x_exit (ks' := _) rfl ?_)
              obtain rfl := Option.some.inj hm51
              exact x_sub (K45 _ rfl) trivial (fun _ h => st_pk 5 [0, 1, 2, 3, 4] (by decide) h)
      · refine c_blk ?_
        refine cd_loopG (M := fun k68 (s : Option client_Client × Int × Int × Int × Bool × Int × Int × (Value × client_Client.G) × PH) => (hawthornlaw21_ClientPlays_l1 a1 p1 k68 s.1 s.2.1 s.2.2.1 s.2.2.2.1 s.2.2.2.2.1 s.2.2.2.2.2.1 s.2.2.2.2.2.2.1 = some p21) ∧ (Le R16 s.2.2.2.2.2.2.2.2)) (Ef := fun (s : Option client_Client × Int × Int × Int × Bool × Int × Int × (Value × client_Client.G) × PH) => [(1, v1_), (5, g2), (7, s.2.2.2.2.2.2.2.1.1), (9, vI s.2.1), (10, vI s.2.2.1), (11, vI s.2.2.2.1), (12, vB s.2.2.2.2.1), (13, vI s.2.2.2.2.2.1), (14, vI s.2.2.2.2.2.2.1)]) (Rf := fun (s : Option client_Client × Int × Int × Int × Bool × Int × Int × (Value × client_Client.G) × PH) => s.2.2.2.2.2.2.2.2) (Lf := fun (s : Option client_Client × Int × Int × Int × Bool × Int × Int × (Value × client_Client.G) × PH) => rO (client_Client.op s.2.2.2.2.2.2.2.1.2) s.2.2.2.2.2.2.2.1.1 s.1 :: F) (((a1.length : Int) - 0).toNat + 1) (r10.1, 0, 0, 0, false, 0, 0, (pv12, g13), R16) ⟨hp28, (Le.refl _)⟩ ⟨rfl, rfl, rfl, rfl, rfl, rfl, rfl, rfl, rfl, trivial⟩ (fun _ h => st_pk 1 [0] (by decide) h) (fun _ h => by cases h.1) fun k68 s hM70 => ?_
        obtain ⟨c_56, at_57, to_58, since_59, under_60, heard_61, i_62, pv65, R63⟩ := s
        have hm69 : hawthornlaw21_ClientPlays_l1 a1 p1 (k68 + 1) c_56 at_57 to_58 since_59 under_60 heard_61 i_62 = some p21 := hM70.1
        have le64 : Le R16 R63 := hM70.2
        rw [hawthornlaw21_ClientPlays_l1] at hm69
        obtain ⟨pv66, g67⟩ := pv65
        refine c_seq ?_
        refine c_seq ?_
        refine c_reg ?_
        refine r_u (o_mv rfl) ?_
        refine r_u (o_mv rfl) ?_
        refine r_u (o_lenR Try.underlying47 rfl (RoS.mono (Le.trans (Le.trans le7 le17) le64) h1_)) ?_
        refine r_u (o_bin rfl rfl (bI_lt i_62 (a1.length : Int))) ?_
        refine r_u (o_mv rfl) ?_
        refine r_s (s_gt rfl rfl fun g => o_mv rfl) ?_
        refine r_s (s_gt rfl rfl fun g => o_bin (evg rfl g) rfl (bI_lt i_62 80)) ?_
        refine r_u (o_and rfl rfl) ?_
        refine r_nil ?_
        refine x_seq ?_
        refine c_if (b := (decide (i_62 < (a1.length : Int)) && decide (i_62 < 80))) rfl (fun h71 => ?_) fun h71 => ?_
        · have hm72 := ift hm69 h71
          clear hm69
          refine c_skip ?_
          refine x_seq ?_
          refine c_seq ?_
          refine c_blk ?_
          refine c_seq ?_
          refine c_reg ?_
          refine r_u (o_mv rfl) ?_
          refine r_u (o_mv rfl) ?_
          obtain ⟨x73, hx73, hm74⟩ := bs hm72
          clear hm72
          obtain ⟨b73, o73, l73, T73, fr73, c73, hv73, hR73, he73, hi73⟩ := RoS.ne (RoS.mono (Le.trans (Le.trans le7 le17) le64) h1_) hx73
          refine r_u (o_ix (sz := 3) Try.underlying47 (fun _ => by kernel_rfl) rfl rfl hv73 hi73) ?_
          refine r_u (o_ldnR (hawthornlaw21_Act.c x73) ag53 rfl hR73 he73 rfl) ?_
          refine r_new (o_al ze53) fun b75 => ?_
          refine r_u0 (o_stn ag53 rfl rfl rfl rfl rfl rfl rfl) ?_
          refine r_nil ?_
          refine x_seq ?_
          refine c_seq ?_
          refine c_reg ?_
          refine r_u (o_fa fa53_1 rfl) ?_
          refine r_u (o_ld 0 sc3 rfl rfl rfl) ?_
          refine r_u (o_bin rfl rfl (bI_and x73.From 1)) ?_
          refine r_u (o_as rfl) ?_
          refine r_nil ?_
          refine x_seq ?_
          refine c_seq ?_
          refine c_reg ?_
          refine r_u (o_as rfl) ?_
          refine r_nil ?_
          refine x_seq ?_
          refine c_seq ?_
          refine c_reg ?_
          refine r_u (o_as rfl) ?_
          refine r_nil ?_
          refine x_seq ?_
          refine c_seq ?_
          refine c_seq ?_
          refine c_reg ?_
          refine r_u (o_fa fa53_0 rfl) ?_
          refine r_u (o_ld 0 sc3 rfl rfl rfl) ?_
          refine r_nil ?_
          refine x_seq ?_
          refine c_blk ?_
          refine c_seq ?_
          refine c_seq ?_
          refine c_reg ?_
          refine r_u (o_bin rfl rfl (bI_eq x73.Kind 0)) ?_
          refine r_u (o_as rfl) ?_
          refine r_nil ?_
          refine x_seq ?_
          obtain ⟨p76, hp77, hm78⟩ := bs hm74
          refine cd_join (E' := [(1, v1_), (5, g2), (7, pv66), (9, vI at_57), (10, vI to_58), (11, vI since_59), (12, vB under_60), (13, vI heard_61), (14, vI i_62), (15, pt b75 0), (16, vI (iand x73.From 1)), (18, vB false), (69, vI x73.Kind), (75, vB p76)]) (L' := Bk b75 53 (hawthornlaw21_Act.c x73) :: rO (client_Client.op g67) pv66 c_56 :: F) ?_ fun K79 => ?_
          · refine x_seq ?_
            obtain ⟨p80, hp87, hm88⟩ := bs hm78
            refine cd_cut (fun x ks => ∀ (R81 : PH), ∀ (le82 : Le R63 R81), ∀ (pv83 : Value × client_Client.G), ∀ (g86 : Value), EX x .normal ks [(1, v1_), (5, g2), (14, vI i_62), (7, pv83.1), (9, vI p80.2.1), (10, vI p80.2.2.1), (11, vI p80.2.2.2.1), (12, vB p80.2.2.2.2.1), (13, vI p80.2.2.2.2.2.1), (17, g86), (18, vB p80.2.2.2.2.2.2.2)] R81 (Bk b75 53 (hawthornlaw21_Act.c x73) :: rO (client_Client.op pv83.2) pv83.1 p80.1 :: OwS true 59 4 api_Packet.c g86 p80.2.2.2.2.2.2.1 :: F)) ?_ fun K89 => ?_
            · intro R81 le82 pv83 g86
              obtain ⟨pv84, g85⟩ := pv83
              refine x_blk ?_
              refine x_seq ?_
              refine c_seq ?_
              refine c_seq ?_
              obtain ⟨p90, hp93, hm94⟩ := bs hm88
              refine cd_cut (fun x ks => ∀ (R91 : PH), ∀ (le92 : Le R81 R91), EX x .normal ks [(1, v1_), (5, g2), (7, pv84), (9, vI p80.2.1), (10, vI p80.2.2.1), (11, vI p80.2.2.2.1), (12, vB p80.2.2.2.2.1), (13, vI p80.2.2.2.2.2.1), (14, vI i_62), (209, vB p90)] R91 (Bk b75 53 (hawthornlaw21_Act.c x73) :: rO (client_Client.op g85) pv84 p80.1 :: F)) ?_ fun K95 => ?_
              · intro R91 le92
                refine x_seq ?_
                refine c_if (b := p90) rfl (fun h96 => ?_) fun h96 => ?_
                · have hm97 := ift hm94 h96
                  clear hm94
                  refine c_seq ?_
                  refine c_reg ?_
                  refine r_u (o_as rfl) ?_
                  refine r_nil ?_
                  refine x_seq ?_
                  refine c_ret ?_
                  obtain rfl := Option.some.inj hm97
                  try dsimp only at hm29
                  obtain rfl := Option.some.inj hm29
                  refine ex_st (fun _ h => st_pk 2 [] (by decide) h) ?_
                  exact x_r1 rfl (rv_t rfl) (Le.trans (Le.trans (Le.trans (Le.trans le7 le17) le64) le82) le92) ⟨_, rfl, rfl, trivial, rfl⟩
                · have hm97 := iff_ hm94 h96
                  clear hm94
                  refine c_skip ?_
                  refine x_seq ?_
                  refine c_seq ?_
                  refine cd_st (fun _ h => st_pk 2 [1, 0] (by decide) h) ?_
                  refine cd_opt (fun ho100 => ?_) (fun x98 b99 ho100 => ?_)
                  · rintro rfl
                    have hm101 := om_n hm97 ho100
                    clear hm97
                    cases hm101
                  · rintro rfl
                    have hm101 := om_s hm97 ho100
                    clear hm97
                    refine cd_st (fun _ h => st_star_o h) ?_
                    obtain ⟨p105, hp106, hm107⟩ := bs hm101
                    refine cd_join (E' := [(1, v1_), (5, g2), (7, pt b99 0), (9, vI p80.2.1), (10, vI p80.2.2.1), (11, vI p80.2.2.2.1), (12, vB p80.2.2.2.2.1), (13, vI p80.2.2.2.2.2.1), (14, vI i_62), (223, vB p105)]) (L' := Bk b99 97 [vI x98.n, g85.l, vI x98.at_, vI x98.to, vI x98.since, vI x98.began, vB x98.under, g85.heard, g85.epochs] :: Bk b75 53 (hawthornlaw21_Act.c x73) :: OwS true 32 5 api_Op.c g85.l x98.l :: OwS true 65 9 api_Heard.c g85.heard x98.heard :: OwS true 22 1 eW g85.epochs x98.epochs :: F) ?_ fun K108 => ?_
                    · refine x_seq ?_
                      refine c_if (b := p105) rfl (fun h109 => ?_) fun h109 => ?_
                      · have hm110 := ift hm107 h109
                        clear hm107
                        refine c_seq ?_
                        refine c_reg ?_
                        refine r_u (o_as rfl) ?_
                        refine r_nil ?_
                        refine x_seq ?_
                        refine c_ret ?_
                        obtain rfl := Option.some.inj hm110
                        try dsimp only at hm29
                        obtain rfl := Option.some.inj hm29
                        refine ex_st (fun _ h => st_pk 5 [] (by decide) h) ?_
                        exact x_r1 rfl (rv_t rfl) (Le.trans (Le.trans (Le.trans (Le.trans le7 le17) le64) le82) le92) ⟨_, rfl, rfl, trivial, rfl⟩
                      · have hm110 := iff_ hm107 h109
                        clear hm107
                        refine c_skip ?_
                        refine x_blk ?_
                        refine x_seq ?_
                        refine c_reg ?_
                        refine r_u (o_mv rfl) ?_
                        refine r_u (o_bin rfl rfl (bI_add i_62 1)) ?_
                        refine r_u (o_as rfl) ?_
                        refine r_nil ?_
                        refine ex_st (fun _ h => st_pk 5 [0, 2, 3, 4, 1] (by decide) h) ?_
                        refine ex_st (fun _ h => st_some (f := client_Client.op g85) (a := x98) (st_star_f (A := client_Client.fl b99 x98 g85) h)) ?_
                        exact x_lp ((some x98), p80.2.1, p80.2.2.1, p80.2.2.2.1, p80.2.2.2.2.1, p80.2.2.2.2.2.1, i64 (i_62 + 1), (pt b99 0, g85), R91) ⟨hm110, (Le.trans (Le.trans le64 le82) le92)⟩ ⟨rfl, rfl, rfl, rfl, rfl, rfl, rfl, rfl, rfl, trivial⟩ (fun _ h => st_pk 2 [0] (by decide) h)
                    · refine cd_by ((client_Client_Ended x98) != (decide ((p1.length : Int) ≤ p80.2.1))) (fun h111 => ?_) fun h111 => ?_
                      · have hm112 := ift hp106 h111
                        clear hp106
                        refine c_reg ?_
                        refine r_u (o_mv rfl) ?_
                        refine r_c (s_w (o_call ca20 rfl (client_Client_Ended.ok b99 x98 g85 _ rfl))) ?_
                        refine r_u (o_mv rfl) ?_
                        refine r_u (o_mv rfl) ?_
                        refine r_u (o_lenR Try.underlying48 rfl (RoS.mono (Le.trans (Le.trans (Le.trans le17 le64) le82) le92) h8)) ?_
                        refine r_u (o_bin rfl rfl (bI_ge p80.2.1 (p1.length : Int))) ?_
                        refine r_u (o_bin rfl rfl (bB_ne Try.underlying4 (client_Client_Ended x98) (decide ((p1.length : Int) ≤ p80.2.1)))) ?_
                        refine r_u (o_mv rfl) ?_
                        refine r_s (s_n rfl rfl h111) ?_
                        refine r_s (s_n rfl rfl h111) ?_
                        refine r_s (s_n rfl rfl h111) ?_
                        refine r_s (s_n rfl rfl h111) ?_
                        refine r_s (s_n rfl rfl h111) ?_
                        refine r_u (o_pt rfl h111 rfl) ?_
                        refine r_nil ?_
                        obtain rfl := Option.some.inj hm112
                        exact x_sub K108 ⟨rfl, rfl, rfl, rfl, rfl, rfl, rfl, rfl, rfl, rfl, trivial⟩ (fun _ h => st_pk 5 [0, 4, 1, 2, 3] (by decide) h)
                      · have hm112 := iff_ hp106 h111
                        clear hp106
                        refine c_reg ?_
                        refine r_u (o_mv rfl) ?_
                        refine r_c (s_w (o_call ca20 rfl (client_Client_Ended.ok b99 x98 g85 _ rfl))) ?_
                        refine r_u (o_mv rfl) ?_
                        refine r_u (o_mv rfl) ?_
                        refine r_u (o_lenR Try.underlying48 rfl (RoS.mono (Le.trans (Le.trans (Le.trans le17 le64) le82) le92) h8)) ?_
                        refine r_u (o_bin rfl rfl (bI_ge p80.2.1 (p1.length : Int))) ?_
                        refine r_u (o_bin rfl rfl (bB_ne Try.underlying4 (client_Client_Ended x98) (decide ((p1.length : Int) ≤ p80.2.1)))) ?_
                        refine r_u (o_mv rfl) ?_
                        refine r_s (s_y rfl rfl h111 (o_mv rfl)) ?_
                        obtain ⟨r113, hr113, hm115⟩ := bs hm112
                        clear hm112
                        refine r_sw (s_yw rfl rfl h111 (o_call ca21 rfl (client_Client_Heard.ok b99 x98 g85 r113 hr113))) ?_
                        rintro v114 R91 _ _ ⟨_, rfl, rfl, rfl⟩
                        refine r_s (s_y rfl rfl h111 (o_lenO 0 Try.underlying62 rfl rfl)) ?_
                        refine r_s (s_y rfl rfl h111 (o_mv rfl)) ?_
                        refine r_s (s_y rfl rfl h111 (o_bin rfl rfl (bI_ne (r113.length : Int) p80.2.2.2.2.2.1))) ?_
                        refine r_u (o_pf rfl h111 rfl) ?_
                        refine r_nil ?_
                        obtain rfl := Option.some.inj hm115
                        exact x_sub K108 ⟨rfl, rfl, rfl, rfl, rfl, rfl, rfl, rfl, rfl, rfl, trivial⟩ (fun _ h => st_pk 6 [1, 5, 2, 3, 4] (by decide) h)
              · refine cd_by p80.2.2.2.2.2.2.2 (fun h116 => ?_) fun h116 => ?_
                · have hm117 := ift hp93 h116
                  clear hp93
                  obtain ⟨x118, hx118, hm119⟩ := bs hm117
                  clear hm117
                  obtain ⟨b118, o118, l118, T118, fr118, c118, hv118, hR118, he118, hi118⟩ := RoS.ne (RoS.mono (Le.trans (Le.trans le17 le64) le82) h8) hx118
                  obtain ⟨r124, hr124, hm125⟩ := bs hm119
                  clear hm119
                  obtain ⟨p126, hp129, hm130⟩ := bs hm125
                  refine cd_cut (fun x ks => ∀ (R127 : PH), ∀ (le128 : Le R81 R127), EX x .normal ks [(1, v1_), (5, g2), (7, pv84), (9, vI p80.2.1), (10, vI p80.2.2.1), (11, vI p80.2.2.2.1), (12, vB p80.2.2.2.2.1), (13, vI p80.2.2.2.2.2.1), (14, vI i_62), (209, vB p126)] R127 (Bk b75 53 (hawthornlaw21_Act.c x73) :: rO (client_Client.op g85) pv84 p80.1 :: F)) ?_ fun K131 => ?_
                  · intro R127 le128
                    obtain rfl := Option.some.inj hm130
                    exact x_sub (K95 _ le128) ⟨rfl, rfl, rfl, rfl, rfl, rfl, rfl, rfl, rfl, rfl, trivial⟩ (fun _ h => st_pk 2 [0, 1] (by decide) h)
                  · refine cd_by r124 (fun h132 => ?_) fun h132 => ?_
                    · have hm133 := ift hp129 h132
                      clear hp129
                      refine c_reg ?_
                      refine r_u (o_mv rfl) ?_
                      refine r_u (o_mv rfl) ?_
                      refine r_s (s_y rfl rfl h116 (o_mv rfl)) ?_
                      refine r_s (s_y rfl rfl h116 (o_mv rfl)) ?_
                      refine r_s (s_y rfl rfl h116 (o_mv rfl)) ?_
                      refine r_s (s_y rfl rfl h116 (o_bin rfl rfl (bI_add p80.2.1 1))) ?_
                      refine r_s (s_y rfl rfl h116 (o_cv rfl (cIW Try.underlying3 Try.underlying22 (i64 (p80.2.1 + 1))))) ?_
                      refine r_s (s_y rfl rfl h116 (o_mv rfl)) ?_
                      refine r_s (s_y rfl rfl h116 (o_mv rfl)) ?_
                      refine r_s (s_y rfl rfl h116 (o_ix (sz := 5) Try.underlying48 (fun _ => by kernel_rfl) rfl rfl hv118 hi118)) ?_
                      refine r_s (s_y rfl rfl h116 (o_ldnR (api_Op.c x118) ag32 rfl hR118 he118 rfl)) ?_
                      refine rl_st (fun _ h => st_pk 3 [2, 0, 1] (by decide) h) ?_
                      refine rl_ex (fun w h => st_freeze w h) fun R134 hf137 => ?_
                      obtain ⟨le135, h136⟩ := hf137
                      refine r_s (s_y rfl rfl h116 (o_callq ca19 rfl (hawthornlaw21_asks.ok g86 p80.2.2.2.2.2.2.1 h136 12 p80.2.2.1 (toW (i64 (p80.2.1 + 1))) x118 r124 hr124))) ?_
                      refine r_s (s_y rfl rfl h116 (o_not rfl)) ?_
                      refine r_u (o_pt rfl h116 rfl) ?_
                      refine r_u (o_mv rfl) ?_
                      refine r_s (s_y rfl rfl (nbf h132) (o_mv rfl)) ?_
                      refine r_s (s_y rfl rfl (nbf h132) (o_not rfl)) ?_
                      refine r_s (s_y rfl rfl (nbf h132) (o_mv rfl)) ?_
                      refine r_s (s_n rfl rfl (nbf h116)) ?_
                      refine r_s (s_n rfl rfl (nbf h116)) ?_
                      refine r_s (s_n rfl rfl (nbf h116)) ?_
                      refine r_s (s_y rfl rfl (nbf h132) (o_pf rfl (nbf h116) rfl)) ?_
                      refine r_u (o_pf rfl (nbf h132) rfl) ?_
                      refine r_nil ?_
                      obtain rfl := Option.some.inj hm133
                      exact x_sub (K131 _ le135) ⟨rfl, rfl, rfl, rfl, rfl, rfl, rfl, rfl, rfl, rfl, trivial⟩ (fun _ h => st_pk 2 [0, 1] (by decide) h)
                    · have hm133 := iff_ hp129 h132
                      clear hp129
                      refine c_reg ?_
                      refine r_u (o_mv rfl) ?_
                      refine r_u (o_mv rfl) ?_
                      refine r_s (s_y rfl rfl h116 (o_mv rfl)) ?_
                      refine r_s (s_y rfl rfl h116 (o_mv rfl)) ?_
                      refine r_s (s_y rfl rfl h116 (o_mv rfl)) ?_
                      refine r_s (s_y rfl rfl h116 (o_bin rfl rfl (bI_add p80.2.1 1))) ?_
                      refine r_s (s_y rfl rfl h116 (o_cv rfl (cIW Try.underlying3 Try.underlying22 (i64 (p80.2.1 + 1))))) ?_
                      refine r_s (s_y rfl rfl h116 (o_mv rfl)) ?_
                      refine r_s (s_y rfl rfl h116 (o_mv rfl)) ?_
                      refine r_s (s_y rfl rfl h116 (o_ix (sz := 5) Try.underlying48 (fun _ => by kernel_rfl) rfl rfl hv118 hi118)) ?_
                      refine r_s (s_y rfl rfl h116 (o_ldnR (api_Op.c x118) ag32 rfl hR118 he118 rfl)) ?_
                      refine rl_st (fun _ h => st_pk 3 [2, 0, 1] (by decide) h) ?_
                      refine rl_ex (fun w h => st_freeze w h) fun R138 hf141 => ?_
                      obtain ⟨le139, h140⟩ := hf141
                      refine r_s (s_y rfl rfl h116 (o_callq ca19 rfl (hawthornlaw21_asks.ok g86 p80.2.2.2.2.2.2.1 h140 12 p80.2.2.1 (toW (i64 (p80.2.1 + 1))) x118 r124 hr124))) ?_
                      refine r_s (s_y rfl rfl h116 (o_not rfl)) ?_
                      refine r_u (o_pt rfl h116 rfl) ?_
                      refine r_u (o_mv rfl) ?_
                      refine r_s (s_n rfl rfl (nbt h132)) ?_
                      refine r_s (s_n rfl rfl (nbt h132)) ?_
                      refine r_s (s_n rfl rfl (nbt h132)) ?_
                      refine r_s (s_nu rfl rfl) ?_
                      refine r_s (s_nu rfl rfl) ?_
                      refine r_s (s_nu rfl rfl) ?_
                      refine r_s (s_n rfl rfl (nbt h132)) ?_
                      refine r_u (o_pt rfl (nbt h132) rfl) ?_
                      refine r_nil ?_
                      obtain rfl := Option.some.inj hm133
                      exact x_sub (K131 _ le139) ⟨rfl, rfl, rfl, rfl, rfl, rfl, rfl, rfl, rfl, rfl, trivial⟩ (fun _ h => st_pk 2 [0, 1] (by decide) h)
                · have hm117 := iff_ hp93 h116
                  clear hp93
                  refine c_reg ?_
                  refine r_u (o_mv rfl) ?_
                  refine r_u (o_mv rfl) ?_
                  refine r_s (s_n rfl rfl h116) ?_
                  refine r_s (s_n rfl rfl h116) ?_
                  refine r_s (s_n rfl rfl h116) ?_
                  refine r_s (s_n rfl rfl h116) ?_
                  refine r_s (s_n rfl rfl h116) ?_
                  refine r_s (s_n rfl rfl h116) ?_
                  refine r_s (s_n rfl rfl h116) ?_
                  refine r_s (s_n rfl rfl h116) ?_
                  refine r_s (s_n rfl rfl h116) ?_
                  refine r_s (s_n rfl rfl h116) ?_
                  refine r_s (s_n rfl rfl h116) ?_
                  refine r_u (o_pf rfl h116 rfl) ?_
                  refine r_u (o_mv rfl) ?_
                  refine r_s (s_y rfl rfl rfl (o_mv rfl)) ?_
                  refine r_s (s_y rfl rfl rfl (o_not rfl)) ?_
                  refine r_s (s_y rfl rfl rfl (o_mv rfl)) ?_
                  refine r_s (s_y rfl rfl (nbt h116) (o_mv rfl)) ?_
                  refine r_s (s_y rfl rfl (nbt h116) (o_lenO 2 Try.underlying54 rfl rfl)) ?_
                  refine r_s (s_y rfl rfl (nbt h116) (o_bin rfl rfl (bI_ne (p80.2.2.2.2.2.2.1.length : Int) 0))) ?_
                  refine r_s (s_y rfl rfl rfl (o_pt rfl (nbt h116) rfl)) ?_
                  refine r_u (o_pf rfl rfl rfl) ?_
                  refine r_nil ?_
                  obtain rfl := Option.some.inj hm117
                  exact x_sub (K95 _ (Le.refl _)) ⟨rfl, rfl, rfl, rfl, rfl, rfl, rfl, rfl, rfl, rfl, trivial⟩ (fun _ h => st_pk 3 [0, 1] (by decide) h)
            · refine c_if (b := p76) rfl (fun h142 => ?_) fun h142 => ?_
              · have hm143 := ift hp87 h142
                clear hp87
                refine c_seq ?_
                refine cd_st (fun _ h => st_pk 2 [1, 0] (by decide) h) ?_
                refine cd_opt (fun ho146 => ?_) (fun x144 b145 ho146 => ?_)
                · rintro rfl
                  have hm147 := om_n hm143 ho146
                  clear hm143
                  cases hm147
                · rintro rfl
                  have hm147 := om_s hm143 ho146
                  clear hm143
                  refine cd_st (fun _ h => st_star_o h) ?_
                  refine c_reg ?_
                  refine r_u (o_mv rfl) ?_
                  refine r_u (o_mv rfl) ?_
                  obtain ⟨r151, hr151, hm153⟩ := bs hm147
                  clear hm147
                  refine r_sw (s_w (o_call ca15 rfl (client_Client_Tick.ok b145 x144 g67 i_62 r151 hr151))) ?_
                  rintro v152 R63 _ _ ⟨_, rfl, rfl, rfl⟩
                  refine r_u (o_as rfl) ?_
                  refine r_nil ?_
                  refine x_seq ?_
                  refine c_seq ?_
                  refine c_reg ?_
                  refine r_u (o_mv rfl) ?_
                  refine r_u (o_mv rfl) ?_
                  refine r_u (o_lenR Try.underlying48 rfl (RoS.mono (Le.trans le17 le64) h8)) ?_
                  refine r_u (o_bin rfl rfl (bI_lt at_57 (p1.length : Int))) ?_
                  refine r_u (o_mv rfl) ?_
                  refine r_s (s_gt rfl rfl fun g => o_mv rfl) ?_
                  refine r_s (s_gt rfl rfl fun g => o_not (evg rfl g)) ?_
                  refine r_u (o_and rfl rfl) ?_
                  refine r_nil ?_
                  refine x_seq ?_
                  obtain ⟨p154, hp155, hm156⟩ := bs hm153
                  refine cd_join (E' := [(1, v1_), (5, g2), (7, pt b145 0), (9, vI at_57), (13, vI heard_61), (14, vI i_62), (17, v152), (10, vI p154.1), (11, vI p154.2.1), (12, vB p154.2.2.1), (18, vB p154.2.2.2)]) (L' := Bk b145 97 [vI r151.2.n, g67.l, vI r151.2.at_, vI r151.2.to, vI r151.2.since, vI r151.2.began, vB r151.2.under, g67.heard, g67.epochs] :: Bk b75 53 (hawthornlaw21_Act.c x73) :: OwS true 59 4 api_Packet.c v152 r151.1 :: OwS true 32 5 api_Op.c g67.l r151.2.l :: OwS true 65 9 api_Heard.c g67.heard r151.2.heard :: OwS true 22 1 eW g67.epochs r151.2.epochs :: F) ?_ fun K157 => ?_
                  · refine ex_st (fun _ h => st_pk 6 [0, 3, 4, 5, 1, 2] (by decide) h) ?_
                    refine ex_st (fun _ h => st_some (f := client_Client.op g67) (a := r151.2) (st_star_f (A := client_Client.fl b145 r151.2 g67) h)) ?_
                    obtain rfl := Option.some.inj hm156
                    exact x_sub (K89 _ (Le.refl _) (pt b145 0, g67) v152) ⟨rfl, rfl, rfl, rfl, rfl, rfl, rfl, rfl, rfl, rfl, rfl, trivial⟩ (fun _ h => st_pk 3 [1, 0, 2] (by decide) h)
                  · refine c_if (b := (decide (at_57 < (p1.length : Int)) && !under_60)) rfl (fun h158 => ?_) fun h158 => ?_
                    · have hm159 := ift hp155 h158
                      clear hp155
                      refine c_reg ?_
                      refine r_u (o_as rfl) ?_
                      refine r_u (o_as rfl) ?_
                      refine r_u (o_as rfl) ?_
                      refine r_nil ?_
                      obtain rfl := Option.some.inj hm159
                      exact x_sub K157 ⟨rfl, rfl, rfl, rfl, rfl, rfl, rfl, rfl, rfl, rfl, rfl, trivial⟩ (fun _ h => st_pk 6 [1, 5, 0, 2, 3, 4] (by decide) h)
                    · have hm159 := iff_ hp155 h158
                      clear hp155
                      refine c_seq ?_
                      refine c_reg ?_
                      refine r_u (o_mv rfl) ?_
                      refine r_u (o_mv rfl) ?_
                      refine r_u (o_lenR Try.underlying48 rfl (RoS.mono (Le.trans le17 le64) h8)) ?_
                      refine r_u (o_bin rfl rfl (bI_lt at_57 (p1.length : Int))) ?_
                      refine r_nil ?_
                      refine x_seq ?_
                      obtain ⟨p160, hp161, hm162⟩ := bs hm159
                      refine cd_join (E' := [(1, v1_), (5, g2), (7, pt b145 0), (9, vI at_57), (12, vB under_60), (13, vI heard_61), (14, vI i_62), (17, v152), (10, vI p160.1), (11, vI p160.2.1), (18, vB p160.2.2)]) (L' := Bk b145 97 [vI r151.2.n, g67.l, vI r151.2.at_, vI r151.2.to, vI r151.2.since, vI r151.2.began, vB r151.2.under, g67.heard, g67.epochs] :: Bk b75 53 (hawthornlaw21_Act.c x73) :: OwS true 59 4 api_Packet.c v152 r151.1 :: OwS true 32 5 api_Op.c g67.l r151.2.l :: OwS true 65 9 api_Heard.c g67.heard r151.2.heard :: OwS true 22 1 eW g67.epochs r151.2.epochs :: F) ?_ fun K163 => ?_
                      · obtain rfl := Option.some.inj hm162
                        exact x_sub K157 ⟨rfl, rfl, rfl, rfl, rfl, rfl, rfl, rfl, rfl, rfl, rfl, trivial⟩ (fun _ h => st_pk 6 [0, 1, 2, 3, 4, 5] (by decide) h)
                      · refine c_if (b := decide (at_57 < (p1.length : Int))) rfl (fun h164 => ?_) fun h164 => ?_
                        · have hm165 := ift hp161 h164
                          clear hp161
                          refine c_seq ?_
                          refine c_reg ?_
                          refine r_u (o_mv rfl) ?_
                          refine r_u (o_bin rfl rfl (bI_add since_59 1)) ?_
                          refine r_u (o_as rfl) ?_
                          refine r_nil ?_
                          refine x_seq ?_
                          refine c_seq ?_
                          refine c_reg ?_
                          refine r_u (o_mv rfl) ?_
                          refine r_u (o_bin rfl rfl (bI_ge (i64 (since_59 + 1)) 5)) ?_
                          refine r_nil ?_
                          refine x_seq ?_
                          obtain ⟨p166, hp167, hm168⟩ := bs hm165
                          refine cd_join (E' := [(1, v1_), (5, g2), (7, pt b145 0), (9, vI at_57), (12, vB under_60), (13, vI heard_61), (14, vI i_62), (17, v152), (10, vI p166.1), (11, vI p166.2.1), (18, vB p166.2.2)]) (L' := Bk b145 97 [vI r151.2.n, g67.l, vI r151.2.at_, vI r151.2.to, vI r151.2.since, vI r151.2.began, vB r151.2.under, g67.heard, g67.epochs] :: Bk b75 53 (hawthornlaw21_Act.c x73) :: OwS true 59 4 api_Packet.c v152 r151.1 :: OwS true 32 5 api_Op.c g67.l r151.2.l :: OwS true 65 9 api_Heard.c g67.heard r151.2.heard :: OwS true 22 1 eW g67.epochs r151.2.epochs :: F) ?_ fun K169 => ?_
                          · obtain rfl := Option.some.inj hm168
                            exact x_sub K163 ⟨rfl, rfl, rfl, rfl, rfl, rfl, rfl, rfl, rfl, rfl, rfl, trivial⟩ (fun _ h => st_pk 6 [0, 1, 2, 3, 4, 5] (by decide) h)
                          · refine c_if (b := decide (5 ≤ (i64 (since_59 + 1)))) rfl (fun h170 => ?_) fun h170 => ?_
                            · have hm171 := ift hp167 h170
                              clear hp167
                              refine c_reg ?_
                              refine r_u (o_mv rfl) ?_
                              refine r_u (o_bin rfl rfl (bI_sub 1 to_58)) ?_
                              refine r_u (o_as rfl) ?_
                              refine r_u (o_as rfl) ?_
                              refine r_u (o_as rfl) ?_
                              refine r_nil ?_
                              obtain rfl := Option.some.inj hm171
                              exact x_sub K169 ⟨rfl, rfl, rfl, rfl, rfl, rfl, rfl, rfl, rfl, rfl, rfl, trivial⟩ (fun _ h => st_pk 6 [1, 5, 0, 2, 3, 4] (by decide) h)
                            · have hm171 := iff_ hp167 h170
                              clear hp167
                              refine c_skip ?_
                              obtain rfl := Option.some.inj hm171
                              exact x_sub K169 ⟨rfl, rfl, rfl, rfl, rfl, rfl, rfl, rfl, rfl, rfl, rfl, trivial⟩ (fun _ h => st_pk 6 [1, 5, 0, 2, 3, 4] (by decide) h)
                        · have hm165 := iff_ hp161 h164
                          clear hp161
                          refine c_skip ?_
                          obtain rfl := Option.some.inj hm165
                          exact x_sub K163 ⟨rfl, rfl, rfl, rfl, rfl, rfl, rfl, rfl, rfl, rfl, rfl, trivial⟩ (fun _ h => st_pk 6 [1, 5, 0, 2, 3, 4] (by decide) h)
              · have hm143 := iff_ hp87 h142
                clear hp87
                refine c_seq ?_
                refine c_reg ?_
                refine r_u (o_bin rfl rfl (bI_eq x73.Kind 2)) ?_
                refine r_u (o_as rfl) ?_
                refine r_nil ?_
                refine x_seq ?_
                obtain ⟨p172, hp179, hm180⟩ := bs hm143
                refine cd_cut (fun x ks => ∀ (R173 : PH), ∀ (le174 : Le R63 R173), ∀ (pv175 : Value × client_Client.G), ∀ (g178 : Value), EX x .normal ks [(1, v1_), (5, g2), (14, vI i_62), (7, pv175.1), (9, vI p172.2.1), (10, vI p172.2.2.1), (11, vI p172.2.2.2.1), (12, vB p172.2.2.2.2.1), (13, vI p172.2.2.2.2.2.1), (17, g178), (18, vB p172.2.2.2.2.2.2.2)] R173 (Bk b75 53 (hawthornlaw21_Act.c x73) :: rO (client_Client.op pv175.2) pv175.1 p172.1 :: OwS true 59 4 api_Packet.c g178 p172.2.2.2.2.2.2.1 :: F)) ?_ fun K181 => ?_
                · intro R173 le174 pv175 g178
                  obtain ⟨pv176, g177⟩ := pv175
                  obtain rfl := Option.some.inj hm180
                  exact x_sub (K89 _ le174 (pv176, g177) g178) ⟨rfl, rfl, rfl, rfl, rfl, rfl, rfl, rfl, rfl, rfl, rfl, trivial⟩ (fun _ h => st_pk 3 [0, 1, 2] (by decide) h)
                · refine c_if (b := (x73.Kind == 2)) rfl (fun h182 => ?_) fun h182 => ?_
                  · have hm183 := ift hp179 h182
                    clear hp179
                    refine c_seq ?_
                    refine c_any mixed (effs := [13, 14]) (V := []) ?_
                    refine stage_ext [(0, vI (iand x73.From 1)), (1, .agg (api_View.c (hawthornlaw21_view (iand x73.From 1))).toArray), (2, vI at_57), (3, vI (i64 (at_57 + 1))), (4, vW (toW (i64 (at_57 + 1)))), (5, pt b75 2), (6, vI x73.Off), (7, vI (iand x73.Off 1)), (8, vW (toW (iand x73.Off 1))), (9, vW ((toW (i64 (at_57 + 1))) + (toW (iand x73.Off 1)))), (10, vI i_62), (11, vW (toW i_62)), (12, .agg [vI 14, vW ((hawthornlaw21_view (iand x73.From 1)).V), vI ((hawthornlaw21_view (iand x73.From 1)).Primary), vW ((hawthornlaw21_view (iand x73.From 1)).PLife), vI ((hawthornlaw21_view (iand x73.From 1)).Backup), vW ((hawthornlaw21_view (iand x73.From 1)).BLife), vW ((hawthornlaw21_view (iand x73.From 1)).Epoch), vW 0, vI 0, vW 0, vI 0, vW 0, vW 0, vW 0, vB false, vW 0, vW 0, vW 0, vW 0, vI 0, vW 0, vI 0, vW 0, vW 0, vW 0, vI 0, vW 0, vI 0, vW 0, vW 0, vW (toW i_62), vW 0, vW 0, .slice none 0 0, vI 0, vI 0, vS [], vS [], vS [], vS [], .slice none 0 0, vW 12, vW ((toW (i64 (at_57 + 1))) + (toW (iand x73.Off 1))), vI 0, vS [], vS [], vW 0, vW 0, vI 0, vS [], vW 0].toArray)] rfl ?_
                    refine stage rfl rfl rfl rfl [0, 1, 0, 4, 12, 0, 32, 96, 224, 508, 0, 1024, 4095, 0, 16383] [0, 1, 2, 3, 4, 5, 6, 7, 8, 9, 10, 11, 12] [13] rfl rfl rfl (qc rfl rfl (s_u (o_mv rfl)) (qc rfl rfl (s_u (o_callq ca16 rfl (hawthornlaw21_view.ok (iand x73.From 1) _ rfl))) (qc rfl rfl (s_u (o_mv rfl)) (qc rfl rfl (s_u (o_bin rfl rfl (bI_add at_57 1))) (qc rfl rfl (s_u (o_cv rfl (cIW Try.underlying3 Try.underlying22 (i64 (at_57 + 1))))) (qc rfl rfl (s_u (o_fa fa53_2 rfl)) (qc rfl rfl (s_u (o_ld 0 sc3 rfl rfl rfl)) (qc rfl rfl (s_u (o_bin rfl rfl (bI_and x73.Off 1))) (qc rfl rfl (s_u (o_cv rfl (cIW Try.underlying3 Try.underlying22 (iand x73.Off 1)))) (qc rfl rfl (s_u (o_bin rfl rfl (bW_add (toW (i64 (at_57 + 1))) (toW (iand x73.Off 1))))) (qc rfl rfl (s_u (o_mv rfl)) (qc rfl rfl (s_u (o_cv rfl (cIW Try.underlying3 Try.underlying22 i_62))) (qc rfl rfl (s_u (o_bld [vI 14, vW ((hawthornlaw21_view (iand x73.From 1)).V), vI ((hawthornlaw21_view (iand x73.From 1)).Primary), vW ((hawthornlaw21_view (iand x73.From 1)).PLife), vI ((hawthornlaw21_view (iand x73.From 1)).Backup), vW ((hawthornlaw21_view (iand x73.From 1)).BLife), vW ((hawthornlaw21_view (iand x73.From 1)).Epoch), vW 0, vI 0, vW 0, vI 0, vW 0, vW 0, vW 0, vB false, vW 0, vW 0, vW 0, vW 0, vI 0, vW 0, vI 0, vW 0, vW 0, vW 0, vI 0, vW 0, vI 0, vW 0, vW 0, vW (toW i_62), vW 0, vW 0, .slice none 0 0, vI 0, vI 0, vS [], vS [], vS [], vS [], .slice none 0 0, vW 12, vW ((toW (i64 (at_57 + 1))) + (toW (iand x73.Off 1))), vI 0, vS [], vS [], vW 0, vW 0, vI 0, vS [], vW 0] rfl (fun _ => by kernel_rfl))) qn))))))))))))) ?_ (fun h => absurd h (by decide))
                    refine ec (eo_n rfl (s_w (o_al ze37)) fun b184 => ?_) en
                    refine stage rfl rfl rfl rfl [0, 1, 0, 4, 12, 0, 32, 96, 224, 508, 0, 1024, 4095, 0, 16383] [0, 1, 2, 3, 4, 5, 6, 7, 8, 9, 10, 11, 12] [14] rfl rfl rfl (qc rfl rfl (s_u (o_mv rfl)) (qc rfl rfl (s_u (o_callq ca16 rfl (hawthornlaw21_view.ok (iand x73.From 1) _ rfl))) (qc rfl rfl (s_u (o_mv rfl)) (qc rfl rfl (s_u (o_bin rfl rfl (bI_add at_57 1))) (qc rfl rfl (s_u (o_cv rfl (cIW Try.underlying3 Try.underlying22 (i64 (at_57 + 1))))) (qc rfl rfl (s_u (o_fa fa53_2 rfl)) (qc rfl rfl (s_u (o_ld 1 sc3 rfl rfl rfl)) (qc rfl rfl (s_u (o_bin rfl rfl (bI_and x73.Off 1))) (qc rfl rfl (s_u (o_cv rfl (cIW Try.underlying3 Try.underlying22 (iand x73.Off 1)))) (qc rfl rfl (s_u (o_bin rfl rfl (bW_add (toW (i64 (at_57 + 1))) (toW (iand x73.Off 1))))) (qc rfl rfl (s_u (o_mv rfl)) (qc rfl rfl (s_u (o_cv rfl (cIW Try.underlying3 Try.underlying22 i_62))) (qc rfl rfl (s_u (o_bld [vI 14, vW ((hawthornlaw21_view (iand x73.From 1)).V), vI ((hawthornlaw21_view (iand x73.From 1)).Primary), vW ((hawthornlaw21_view (iand x73.From 1)).PLife), vI ((hawthornlaw21_view (iand x73.From 1)).Backup), vW ((hawthornlaw21_view (iand x73.From 1)).BLife), vW ((hawthornlaw21_view (iand x73.From 1)).Epoch), vW 0, vI 0, vW 0, vI 0, vW 0, vW 0, vW 0, vB false, vW 0, vW 0, vW 0, vW 0, vI 0, vW 0, vI 0, vW 0, vW 0, vW 0, vI 0, vW 0, vI 0, vW 0, vW 0, vW (toW i_62), vW 0, vW 0, .slice none 0 0, vI 0, vI 0, vS [], vS [], vS [], vS [], .slice none 0 0, vW 12, vW ((toW (i64 (at_57 + 1))) + (toW (iand x73.Off 1))), vI 0, vS [], vS [], vW 0, vW 0, vI 0, vS [], vW 0] rfl (fun _ => by kernel_rfl))) qn))))))))))))) ?_ (fun h => absurd h (by decide))
                    refine ec (eo_u rfl (s_u (o_stn ag37 rfl rfl rfl (al_c rfl (al_c rfl (al_c rfl (al_c rfl (al_c rfl (al_c rfl (al_c rfl (al_c rfl (al_c rfl (al_c rfl (al_c rfl (al_c rfl (al_c rfl (al_c rfl (al_c rfl (al_c rfl (al_c rfl (al_c rfl (al_c rfl (al_c rfl (al_c rfl (al_c rfl (al_c rfl (al_c rfl (al_c rfl (al_c rfl (al_c rfl (al_c rfl (al_c rfl (al_c rfl (al_c rfl (al_c rfl (al_c rfl (al_c rfl (al_c rfl (al_c rfl (al_c rfl (al_c rfl (al_c rfl (al_c rfl (al_c rfl (al_c rfl (al_c rfl (al_c rfl (al_c rfl (al_c rfl (al_c rfl (al_c rfl (al_c rfl (al_c rfl (al_c rfl al_n))))))))))))))))))))))))))))))))))))))))))))))))))) rfl rfl rfl)) (Le.refl _) ?_) en
                    refine stage rfl rfl rfl rfl [0, 1, 0, 4, 12, 0, 32, 96, 224, 508, 0, 1024, 4095, 0, 16383] [] [] rfl rfl rfl qn en ?_
                    intro _
                    refine ex_sub (E' := [(1, v1_), (5, g2), (7, pv66), (9, vI at_57), (10, vI to_58), (11, vI since_59), (12, vB under_60), (13, vI heard_61), (14, vI i_62), (15, pt b75 0), (16, vI (iand x73.From 1)), (18, vB false), (19, pt b184 0)]) ⟨rfl, rfl, rfl, rfl, rfl, rfl, rfl, rfl, rfl, rfl, rfl, rfl, rfl, trivial⟩ ?_
                    refine x_seq ?_
                    refine c_seq ?_
                    obtain ⟨r185, hr185, hm186⟩ := bs hm183
                    clear hm183
                    refine cd_st (fun _ h => st_pk 3 [2, 0, 1] (by decide) h) ?_
                    refine cd_opt (fun ho189 => ?_) (fun x187 b188 ho189 => ?_)
                    · rintro rfl
                      have hm190 := om_n hm186 ho189
                      clear hm186
                      cases hm190
                    · rintro rfl
                      have hm190 := om_s hm186 ho189
                      clear hm186
                      refine cd_st (fun _ h => st_star_o h) ?_
                      refine c_reg ?_
                      refine r_u (o_mv rfl) ?_
                      refine r_u (o_mv rfl) ?_
                      refine r_u (o_ldn 4 [vI 14, vW ((hawthornlaw21_view (iand x73.From 1)).V), vI ((hawthornlaw21_view (iand x73.From 1)).Primary), vW ((hawthornlaw21_view (iand x73.From 1)).PLife), vI ((hawthornlaw21_view (iand x73.From 1)).Backup), vW ((hawthornlaw21_view (iand x73.From 1)).BLife), vW ((hawthornlaw21_view (iand x73.From 1)).Epoch), vW 0, vI 0, vW 0, vI 0, vW 0, vW 0, vW 0, vB false, vW 0, vW 0, vW 0, vW 0, vI 0, vW 0, vI 0, vW 0, vW 0, vW 0, vI 0, vW 0, vI 0, vW 0, vW 0, vW (toW i_62), vW 0, vW 0, .slice none 0 0, vI 0, vI 0, vS [], vS [], vS [], vS [], .slice none 0 0, vW 12, vW ((toW (i64 (at_57 + 1))) + (toW (iand x73.Off 1))), vI 0, vS [], vS [], vW 0, vW 0, vI 0, vS [], vW 0] ag37 rfl rfl rfl rfl) ?_
                      refine r_u (o_callq ca18 rfl (hawthornlaw21_told.ok (iand x73.From 1) 12 (⟨14, (hawthornlaw21_view (iand x73.From 1)), (⟨0, 0, 0, 0, 0, 0⟩ : api_View), 0, (⟨false, 0, 0, 0, (⟨0, 0, 0, 0, 0, 0⟩ : api_View), (⟨0, 0, 0, 0, 0, 0⟩ : api_View)⟩ : api_Promise), toW i_62, 0, 0, [], (⟨0, 0, [], [], []⟩ : api_Piece), [], [], 12, (toW (i64 (at_57 + 1))) + (toW (iand x73.Off 1)), (⟨0, [], [], 0, 0⟩ : api_Op), (⟨0, [], 0⟩ : api_Reply)⟩ : api_Say) (⟨.slice none 0 0, .slice none 0 0⟩ : api_Say.G) ⟨RoS.nil, RoS.nil⟩ r185 hr185)) ?_
                      refine r_u (o_mv rfl) ?_
                      obtain ⟨r194, hr194, hm202⟩ := bs hm190
                      clear hm190
                      refine r_sw (s_w (o_call ca17 rfl (client_Client_Handle.ok b188 x187 g67 r185 i_62 r194 hr194))) ?_
                      rintro v195 R200 _ le201 ⟨_, g196, rfl, _, rfl⟩
                      refine r_u (o_as rfl) ?_
                      refine r_nil ?_
                      refine x_seq ?_
                      refine c_seq ?_
                      refine c_reg ?_
                      refine r_u (o_mv rfl) ?_
                      refine r_u (o_mv rfl) ?_
                      refine r_u (o_lenR Try.underlying48 rfl (RoS.mono (Le.trans (Le.trans le17 le64) le201) h8)) ?_
                      refine r_u (o_bin rfl rfl (bI_lt at_57 (p1.length : Int))) ?_
                      refine r_u (o_mv rfl) ?_
                      refine r_s (s_gt rfl rfl fun g => o_mv rfl) ?_
                      refine r_u (o_and rfl rfl) ?_
                      refine r_u (o_mv rfl) ?_
                      refine r_s (s_gt rfl rfl fun g => o_fa fa53_2 rfl) ?_
                      refine r_s (s_gt rfl rfl fun g => o_ld 6 sc3 (evg rfl g) rfl rfl) ?_
                      refine r_s (s_gt rfl rfl fun g => o_bin (evg rfl g) rfl (bI_and x73.Off 1)) ?_
                      refine r_s (s_gt rfl rfl fun g => o_bin (evg rfl g) rfl (bI_eq (iand x73.Off 1) 0)) ?_
                      refine r_u (o_and rfl rfl) ?_
                      refine r_nil ?_
                      refine x_seq ?_
                      obtain ⟨p203, hp204, hm205⟩ := bs hm202
                      refine cd_join (E' := [(1, v1_), (5, g2), (7, pt b188 0), (10, vI to_58), (11, vI since_59), (14, vI i_62), (17, v195), (18, vB false), (9, vI p203.1), (12, vB p203.2.1), (13, vI p203.2.2)]) (L' := Bk b188 97 [vI r194.2.n, g196.l, vI r194.2.at_, vI r194.2.to, vI r194.2.since, vI r194.2.began, vB r194.2.under, g196.heard, g196.epochs] :: Bk b184 37 [vI 14, vW ((hawthornlaw21_view (iand x73.From 1)).V), vI ((hawthornlaw21_view (iand x73.From 1)).Primary), vW ((hawthornlaw21_view (iand x73.From 1)).PLife), vI ((hawthornlaw21_view (iand x73.From 1)).Backup), vW ((hawthornlaw21_view (iand x73.From 1)).BLife), vW ((hawthornlaw21_view (iand x73.From 1)).Epoch), vW 0, vI 0, vW 0, vI 0, vW 0, vW 0, vW 0, vB false, vW 0, vW 0, vW 0, vW 0, vI 0, vW 0, vI 0, vW 0, vW 0, vW 0, vI 0, vW 0, vI 0, vW 0, vW 0, vW (toW i_62), vW 0, vW 0, .slice none 0 0, vI 0, vI 0, vS [], vS [], vS [], vS [], .slice none 0 0, vW 12, vW ((toW (i64 (at_57 + 1))) + (toW (iand x73.Off 1))), vI 0, vS [], vS [], vW 0, vW 0, vI 0, vS [], vW 0] :: Bk b75 53 (hawthornlaw21_Act.c x73) :: OwS true 59 4 api_Packet.c v195 r194.1 :: OwS true 32 5 api_Op.c g196.l r194.2.l :: OwS true 65 9 api_Heard.c g196.heard r194.2.heard :: OwS true 22 1 eW g196.epochs r194.2.epochs :: F) ?_ fun K206 => ?_
                      · refine ex_st (fun _ h => st_pk 7 [0, 4, 5, 6, 1, 2, 3] (by decide) h) ?_
                        refine ex_st (fun _ h => st_some (f := client_Client.op g196) (a := r194.2) (st_star_f (A := client_Client.fl b188 r194.2 g196) h)) ?_
                        obtain rfl := Option.some.inj hm205
                        exact x_sub (K181 _ le201 (pt b188 0, g196) v195) ⟨rfl, rfl, rfl, rfl, rfl, rfl, rfl, rfl, rfl, rfl, rfl, trivial⟩ (fun _ h => st_pk 4 [2, 0, 3] (by decide) h)
                      · refine c_if (b := ((decide (at_57 < (p1.length : Int)) && under_60) && ((iand x73.Off 1) == 0))) rfl (fun h207 => ?_) fun h207 => ?_
                        · have hm208 := ift hp204 h207
                          clear hp204
                          refine c_reg ?_
                          refine r_u (o_mv rfl) ?_
                          refine r_u (o_bin rfl rfl (bI_add at_57 1)) ?_
                          refine r_u (o_mv rfl) ?_
                          refine r_u (o_bin rfl rfl (bI_add heard_61 1)) ?_
                          refine r_u (o_as rfl) ?_
                          refine r_u (o_as rfl) ?_
                          refine r_u (o_as rfl) ?_
                          refine r_nil ?_
                          obtain rfl := Option.some.inj hm208
                          exact x_sub K206 ⟨rfl, rfl, rfl, rfl, rfl, rfl, rfl, rfl, rfl, rfl, rfl, trivial⟩ (fun _ h => st_pk 7 [1, 5, 6, 0, 2, 3, 4] (by decide) h)
                        · have hm208 := iff_ hp204 h207
                          clear hp204
                          refine c_skip ?_
                          obtain rfl := Option.some.inj hm208
                          exact x_sub K206 ⟨rfl, rfl, rfl, rfl, rfl, rfl, rfl, rfl, rfl, rfl, rfl, trivial⟩ (fun _ h => st_pk 7 [1, 5, 6, 0, 2, 3, 4] (by decide) h)
                  · have hm183 := iff_ hp179 h182
                    clear hp179
                    refine c_seq ?_
                    refine c_reg ?_
                    refine r_u (o_bin rfl rfl (bI_eq x73.Kind 3)) ?_
                    refine r_u (o_as rfl) ?_
                    refine r_nil ?_
                    refine x_seq ?_
                    obtain ⟨p209, hp216, hm217⟩ := bs hm183
                    refine cd_cut (fun x ks => ∀ (R210 : PH), ∀ (le211 : Le R63 R210), ∀ (pv212 : Value × client_Client.G), ∀ (g215 : Value), EX x .normal ks [(1, v1_), (5, g2), (9, vI at_57), (12, vB under_60), (13, vI heard_61), (14, vI i_62), (7, pv212.1), (10, vI p209.2.1), (11, vI p209.2.2.1), (17, g215), (18, vB p209.2.2.2.2)] R210 (Bk b75 53 (hawthornlaw21_Act.c x73) :: rO (client_Client.op pv212.2) pv212.1 p209.1 :: OwS true 59 4 api_Packet.c g215 p209.2.2.2.1 :: F)) ?_ fun K218 => ?_
                    · intro R210 le211 pv212 g215
                      obtain ⟨pv213, g214⟩ := pv212
                      obtain rfl := Option.some.inj hm217
                      exact x_sub (K181 _ le211 (pv213, g214) g215) ⟨rfl, rfl, rfl, rfl, rfl, rfl, rfl, rfl, rfl, rfl, rfl, trivial⟩ (fun _ h => st_pk 3 [0, 1, 2] (by decide) h)
                    · refine c_if (b := (x73.Kind == 3)) rfl (fun h219 => ?_) fun h219 => ?_
                      · have hm220 := ift hp216 h219
                        clear hp216
                        refine c_seq ?_
                        refine c_reg ?_
                        refine r_u (o_fa fa53_2 rfl) ?_
                        refine r_u (o_ld 0 sc3 rfl rfl rfl) ?_
                        refine r_u (o_bin rfl rfl (bI_and x73.Off 1)) ?_
                        refine r_u (o_callq ca16 rfl (hawthornlaw21_view.ok (iand x73.Off 1) _ rfl)) ?_
                        refine r_new (o_al ze24) fun b221 => ?_
                        refine r_u0 (o_stn ag24 rfl rfl rfl rfl rfl rfl rfl) ?_
                        refine r_nil ?_
                        refine x_seq ?_
                        refine c_seq ?_
                        obtain ⟨r222, hr222, hm223⟩ := bs hm220
                        clear hm220
                        refine cd_st (fun _ h => st_pk 3 [2, 0, 1] (by decide) h) ?_
                        refine cd_opt (fun ho226 => ?_) (fun x224 b225 ho226 => ?_)
                        · rintro rfl
                          have hm227 := om_n hm223 ho226
                          clear hm223
                          cases hm227
                        · rintro rfl
                          have hm227 := om_s hm223 ho226
                          clear hm223
                          refine cd_st (fun _ h => st_star_o h) ?_
                          refine c_reg ?_
                          refine r_u (o_mv rfl) ?_
                          refine r_u (o_mv rfl) ?_
                          refine r_u (o_ldn 4 (api_View.c (hawthornlaw21_view (iand x73.Off 1))) ag24 rfl rfl rfl rfl) ?_
                          refine r_u (o_bld [vI 15, vW ((hawthornlaw21_view (iand x73.Off 1)).V), vI ((hawthornlaw21_view (iand x73.Off 1)).Primary), vW ((hawthornlaw21_view (iand x73.Off 1)).PLife), vI ((hawthornlaw21_view (iand x73.Off 1)).Backup), vW ((hawthornlaw21_view (iand x73.Off 1)).BLife), vW ((hawthornlaw21_view (iand x73.Off 1)).Epoch), vW 0, vI 0, vW 0, vI 0, vW 0, vW 0, vW 0, vB false, vW 0, vW 0, vW 0, vW 0, vI 0, vW 0, vI 0, vW 0, vW 0, vW 0, vI 0, vW 0, vI 0, vW 0, vW 0, vW 0, vW 0, vW 0, .slice none 0 0, vI 0, vI 0, vS [], vS [], vS [], vS [], .slice none 0 0, vW 0, vW 0, vI 0, vS [], vS [], vW 0, vW 0, vI 0, vS [], vW 0] rfl (fun _ => by kernel_rfl)) ?_
                          refine r_u (o_callq ca18 rfl (hawthornlaw21_told.ok (iand x73.From 1) 12 (⟨15, (hawthornlaw21_view (iand x73.Off 1)), (⟨0, 0, 0, 0, 0, 0⟩ : api_View), 0, (⟨false, 0, 0, 0, (⟨0, 0, 0, 0, 0, 0⟩ : api_View), (⟨0, 0, 0, 0, 0, 0⟩ : api_View)⟩ : api_Promise), 0, 0, 0, [], (⟨0, 0, [], [], []⟩ : api_Piece), [], [], 0, 0, (⟨0, [], [], 0, 0⟩ : api_Op), (⟨0, [], 0⟩ : api_Reply)⟩ : api_Say) (⟨.slice none 0 0, .slice none 0 0⟩ : api_Say.G) ⟨RoS.nil, RoS.nil⟩ r222 hr222)) ?_
                          refine r_u (o_mv rfl) ?_
                          obtain ⟨r231, hr231, hm239⟩ := bs hm227
                          clear hm227
                          refine r_sw (s_w (o_call ca17 rfl (client_Client_Handle.ok b225 x224 g67 r222 i_62 r231 hr231))) ?_
                          rintro v232 R237 _ le238 ⟨_, g233, rfl, _, rfl⟩
                          refine r_u (o_as rfl) ?_
                          refine r_nil ?_
                          refine x_seq ?_
                          refine c_seq ?_
                          refine c_reg ?_
                          refine r_u (o_mv rfl) ?_
                          refine r_u (o_mv rfl) ?_
                          refine r_u (o_lenR Try.underlying48 rfl (RoS.mono (Le.trans (Le.trans le17 le64) le238) h8)) ?_
                          refine r_u (o_bin rfl rfl (bI_lt at_57 (p1.length : Int))) ?_
                          refine r_u (o_mv rfl) ?_
                          refine r_s (s_gt rfl rfl fun g => o_mv rfl) ?_
                          refine r_u (o_and rfl rfl) ?_
                          refine r_u (o_mv rfl) ?_
                          refine r_s (s_gt rfl rfl fun g => o_fa fa24_1 rfl) ?_
                          refine r_s (s_gt rfl rfl fun g => o_ld 5 sc3 (evg rfl g) rfl rfl) ?_
                          refine r_s (s_gt rfl rfl fun g => o_mv rfl) ?_
                          refine r_s (s_gt rfl rfl fun g => o_bin rfl (evg rfl g) (bI_sub 1 (iand x73.From 1))) ?_
                          refine r_s (s_gt rfl rfl fun g => o_bin (evg rfl g) (evg rfl g) (bI_eq ((hawthornlaw21_view (iand x73.Off 1)).Primary) (i64 (1 - (iand x73.From 1))))) ?_
                          refine r_u (o_and rfl rfl) ?_
                          refine r_u (o_mv rfl) ?_
                          refine r_s (s_gt rfl rfl fun g => o_mv rfl) ?_
                          refine r_s (s_gt rfl rfl fun g => o_fa fa24_1 rfl) ?_
                          refine r_s (s_gt rfl rfl fun g => o_ld 5 sc3 (evg rfl g) rfl rfl) ?_
                          refine r_s (s_gt rfl rfl fun g => o_bin (evg rfl g) (evg rfl g) (bI_ne to_58 ((hawthornlaw21_view (iand x73.Off 1)).Primary))) ?_
                          refine r_u (o_and rfl rfl) ?_
                          refine r_nil ?_
                          refine x_seq ?_
                          obtain ⟨p240, hp241, hm242⟩ := bs hm239
                          refine cd_join (E' := [(1, v1_), (5, g2), (7, pt b225 0), (9, vI at_57), (12, vB under_60), (13, vI heard_61), (14, vI i_62), (17, v232), (10, vI p240.1), (11, vI p240.2.1), (18, vB p240.2.2)]) (L' := Bk b225 97 [vI r231.2.n, g233.l, vI r231.2.at_, vI r231.2.to, vI r231.2.since, vI r231.2.began, vB r231.2.under, g233.heard, g233.epochs] :: Bk b221 24 (api_View.c (hawthornlaw21_view (iand x73.Off 1))) :: Bk b75 53 (hawthornlaw21_Act.c x73) :: OwS true 59 4 api_Packet.c v232 r231.1 :: OwS true 32 5 api_Op.c g233.l r231.2.l :: OwS true 65 9 api_Heard.c g233.heard r231.2.heard :: OwS true 22 1 eW g233.epochs r231.2.epochs :: F) ?_ fun K243 => ?_
                          · refine ex_st (fun _ h => st_pk 7 [0, 4, 5, 6, 1, 2, 3] (by decide) h) ?_
                            refine ex_st (fun _ h => st_some (f := client_Client.op g233) (a := r231.2) (st_star_f (A := client_Client.fl b225 r231.2 g233) h)) ?_
                            obtain rfl := Option.some.inj hm242
                            exact x_sub (K218 _ le238 (pt b225 0, g233) v232) ⟨rfl, rfl, rfl, rfl, rfl, rfl, rfl, rfl, rfl, rfl, rfl, trivial⟩ (fun _ h => st_pk 4 [2, 0, 3] (by decide) h)
                          · refine c_if (b := (((decide (at_57 < (p1.length : Int)) && under_60) && (((hawthornlaw21_view (iand x73.Off 1)).Primary) == (i64 (1 - (iand x73.From 1))))) && (to_58 != ((hawthornlaw21_view (iand x73.Off 1)).Primary)))) rfl (fun h244 => ?_) fun h244 => ?_
                            · have hm245 := ift hp241 h244
                              clear hp241
                              refine c_reg ?_
                              refine r_u (o_fa fa24_1 rfl) ?_
                              refine r_u (o_ld 5 sc3 rfl rfl rfl) ?_
                              refine r_u (o_as rfl) ?_
                              refine r_u (o_as rfl) ?_
                              refine r_u (o_as rfl) ?_
                              refine r_nil ?_
                              obtain rfl := Option.some.inj hm245
                              exact x_sub K243 ⟨rfl, rfl, rfl, rfl, rfl, rfl, rfl, rfl, rfl, rfl, rfl, trivial⟩ (fun _ h => st_pk 7 [1, 5, 6, 0, 2, 3, 4] (by decide) h)
                            · have hm245 := iff_ hp241 h244
                              clear hp241
                              refine c_skip ?_
                              obtain rfl := Option.some.inj hm245
                              exact x_sub K243 ⟨rfl, rfl, rfl, rfl, rfl, rfl, rfl, rfl, rfl, rfl, rfl, trivial⟩ (fun _ h => st_pk 7 [1, 5, 6, 0, 2, 3, 4] (by decide) h)
                      · have hm220 := iff_ hp216 h219
                        clear hp216
                        refine c_seq ?_
                        refine c_reg ?_
                        refine r_u (o_bin rfl rfl (bI_eq x73.Kind 4)) ?_
                        refine r_u (o_as rfl) ?_
                        refine r_nil ?_
                        refine x_seq ?_
                        obtain ⟨p246, hp253, hm254⟩ := bs hm220
                        refine cd_cut (fun x ks => ∀ (R247 : PH), ∀ (le248 : Le R63 R247), ∀ (pv249 : Value × client_Client.G), ∀ (g252 : Value), EX x .normal ks [(1, v1_), (5, g2), (9, vI at_57), (10, vI to_58), (11, vI since_59), (12, vB under_60), (13, vI heard_61), (14, vI i_62), (18, vB false), (7, pv249.1), (17, g252)] R247 (Bk b75 53 (hawthornlaw21_Act.c x73) :: rO (client_Client.op pv249.2) pv249.1 p246.1 :: OwS true 59 4 api_Packet.c g252 p246.2 :: F)) ?_ fun K255 => ?_
                        · intro R247 le248 pv249 g252
                          obtain ⟨pv250, g251⟩ := pv249
                          obtain rfl := Option.some.inj hm254
                          exact x_sub (K218 _ le248 (pv250, g251) g252) ⟨rfl, rfl, rfl, rfl, rfl, rfl, rfl, rfl, rfl, rfl, rfl, trivial⟩ (fun _ h => st_pk 3 [0, 1, 2] (by decide) h)
                        · refine c_if (b := (x73.Kind == 4)) rfl (fun h256 => ?_) fun h256 => ?_
                          · have hm257 := ift hp253 h256
                            clear hp253
                            refine c_seq ?_
                            refine c_reg ?_
                            refine r_u (o_mv rfl) ?_
                            refine r_u (o_callq ca16 rfl (hawthornlaw21_view.ok (iand x73.From 1) _ rfl)) ?_
                            refine r_u (o_mv rfl) ?_
                            refine r_u (o_bin rfl rfl (bI_add at_57 1)) ?_
                            refine r_u (o_cv rfl (cIW Try.underlying3 Try.underlying22 (i64 (at_57 + 1)))) ?_
                            refine r_u (o_bld [vI 130, vS [], vW 0] rfl (fun _ => by kernel_rfl)) ?_
                            refine r_u (o_bld [vI 14, vW ((hawthornlaw21_view (iand x73.From 1)).V), vI ((hawthornlaw21_view (iand x73.From 1)).Primary), vW ((hawthornlaw21_view (iand x73.From 1)).PLife), vI ((hawthornlaw21_view (iand x73.From 1)).Backup), vW ((hawthornlaw21_view (iand x73.From 1)).BLife), vW ((hawthornlaw21_view (iand x73.From 1)).Epoch), vW 0, vI 0, vW 0, vI 0, vW 0, vW 0, vW 0, vB false, vW 0, vW 0, vW 0, vW 0, vI 0, vW 0, vI 0, vW 0, vW 0, vW 0, vI 0, vW 0, vI 0, vW 0, vW 0, vW 0, vW 0, vW 0, .slice none 0 0, vI 0, vI 0, vS [], vS [], vS [], vS [], .slice none 0 0, vW 12, vW (toW (i64 (at_57 + 1))), vI 0, vS [], vS [], vW 0, vW 0, vI 130, vS [], vW 0] rfl (fun _ => by kernel_rfl)) ?_
                            refine r_new (o_al ze37) fun b258 => ?_
                            refine r_u0 (o_stn ag37 rfl rfl rfl (al_c rfl (al_c rfl (al_c rfl (al_c rfl (al_c rfl (al_c rfl (al_c rfl (al_c rfl (al_c rfl (al_c rfl (al_c rfl (al_c rfl (al_c rfl (al_c rfl (al_c rfl (al_c rfl (al_c rfl (al_c rfl (al_c rfl (al_c rfl (al_c rfl (al_c rfl (al_c rfl (al_c rfl (al_c rfl (al_c rfl (al_c rfl (al_c rfl (al_c rfl (al_c rfl (al_c rfl (al_c rfl (al_c rfl (al_c rfl (al_c rfl (al_c rfl (al_c rfl (al_c rfl (al_c rfl (al_c rfl (al_c rfl (al_c rfl (al_c rfl (al_c rfl (al_c rfl (al_c rfl (al_c rfl (al_c rfl (al_c rfl (al_c rfl (al_c rfl al_n))))))))))))))))))))))))))))))))))))))))))))))))))) rfl rfl rfl) ?_
                            refine r_nil ?_
                            refine x_seq ?_
                            obtain ⟨r259, hr259, hm260⟩ := bs hm257
                            clear hm257
                            refine cd_st (fun _ h => st_pk 3 [2, 0, 1] (by decide) h) ?_
                            refine cd_opt (fun ho263 => ?_) (fun x261 b262 ho263 => ?_)
                            · rintro rfl
                              have hm264 := om_n hm260 ho263
                              clear hm260
                              cases hm264
                            · rintro rfl
                              have hm264 := om_s hm260 ho263
                              clear hm260
                              refine cd_st (fun _ h => st_star_o h) ?_
                              refine c_reg ?_
                              refine r_u (o_mv rfl) ?_
                              refine r_u (o_mv rfl) ?_
                              refine r_u (o_ldn 4 [vI 14, vW ((hawthornlaw21_view (iand x73.From 1)).V), vI ((hawthornlaw21_view (iand x73.From 1)).Primary), vW ((hawthornlaw21_view (iand x73.From 1)).PLife), vI ((hawthornlaw21_view (iand x73.From 1)).Backup), vW ((hawthornlaw21_view (iand x73.From 1)).BLife), vW ((hawthornlaw21_view (iand x73.From 1)).Epoch), vW 0, vI 0, vW 0, vI 0, vW 0, vW 0, vW 0, vB false, vW 0, vW 0, vW 0, vW 0, vI 0, vW 0, vI 0, vW 0, vW 0, vW 0, vI 0, vW 0, vI 0, vW 0, vW 0, vW 0, vW 0, vW 0, .slice none 0 0, vI 0, vI 0, vS [], vS [], vS [], vS [], .slice none 0 0, vW 12, vW (toW (i64 (at_57 + 1))), vI 0, vS [], vS [], vW 0, vW 0, vI 130, vS [], vW 0] ag37 rfl rfl rfl rfl) ?_
                              refine r_u (o_callq ca18 rfl (hawthornlaw21_told.ok (iand x73.From 1) 12 (⟨14, (hawthornlaw21_view (iand x73.From 1)), (⟨0, 0, 0, 0, 0, 0⟩ : api_View), 0, (⟨false, 0, 0, 0, (⟨0, 0, 0, 0, 0, 0⟩ : api_View), (⟨0, 0, 0, 0, 0, 0⟩ : api_View)⟩ : api_Promise), 0, 0, 0, [], (⟨0, 0, [], [], []⟩ : api_Piece), [], [], 12, toW (i64 (at_57 + 1)), (⟨0, [], [], 0, 0⟩ : api_Op), (⟨130, [], 0⟩ : api_Reply)⟩ : api_Say) (⟨.slice none 0 0, .slice none 0 0⟩ : api_Say.G) ⟨RoS.nil, RoS.nil⟩ r259 hr259)) ?_
                              refine r_u (o_mv rfl) ?_
                              obtain ⟨r268, hr268, hm276⟩ := bs hm264
                              clear hm264
                              refine r_sw (s_w (o_call ca17 rfl (client_Client_Handle.ok b262 x261 g67 r259 i_62 r268 hr268))) ?_
                              rintro v269 R274 _ le275 ⟨_, g270, rfl, _, rfl⟩
                              refine r_u (o_as rfl) ?_
                              refine r_nil ?_
                              refine ex_st (fun _ h => st_pk 7 [1, 2, 3, 4, 0, 5, 6] (by decide) h) ?_
                              refine ex_st (fun _ h => st_some (f := client_Client.op g270) (a := r268.2) (st_star_f (A := client_Client.fl b262 r268.2 g270) h)) ?_
                              obtain rfl := Option.some.inj hm276
                              exact x_sub (K255 _ le275 (pt b262 0, g270) v269) ⟨rfl, rfl, rfl, rfl, rfl, rfl, rfl, rfl, rfl, rfl, rfl, trivial⟩ (fun _ h => st_pk 4 [3, 0, 1] (by decide) h)
                          · have hm257 := iff_ hp253 h256
                            clear hp253
                            refine cd_st (fun _ h => st_pk 2 [1, 0] (by decide) h) ?_
                            refine cd_opt (fun ho279 => ?_) (fun x277 b278 ho279 => ?_)
                            · rintro rfl
                              have hm280 := om_n hm257 ho279
                              clear hm257
                              cases hm280
                            · rintro rfl
                              have hm280 := om_s hm257 ho279
                              clear hm257
                              refine cd_st (fun _ h => st_star_o h) ?_
                              refine c_reg ?_
                              refine r_u (o_mv rfl) ?_
                              refine r_u (o_mv rfl) ?_
                              refine r_u (o_bld [vI (iand x73.From 1), vI 12, vS [119, 104, 97, 116], vB false] rfl (fun _ => by kernel_rfl)) ?_
                              refine r_u (o_mv rfl) ?_
                              obtain ⟨r284, hr284, hm292⟩ := bs hm280
                              clear hm280
                              refine r_sw (s_w (o_call ca17 rfl (client_Client_Handle.ok b278 x277 g67 (⟨iand x73.From 1, 12, [119, 104, 97, 116], false⟩ : api_Packet) i_62 r284 hr284))) ?_
                              rintro v285 R290 _ le291 ⟨_, g286, rfl, _, rfl⟩
                              refine r_u (o_as rfl) ?_
                              refine r_nil ?_
                              refine ex_st (fun _ h => st_pk 6 [1, 2, 3, 4, 0, 5] (by decide) h) ?_
                              refine ex_st (fun _ h => st_some (f := client_Client.op g286) (a := r284.2) (st_star_f (A := client_Client.fl b278 r284.2 g286) h)) ?_
                              obtain rfl := Option.some.inj hm292
                              exact x_sub (K255 _ le291 (pt b278 0, g286) v285) ⟨rfl, rfl, rfl, rfl, rfl, rfl, rfl, rfl, rfl, rfl, rfl, trivial⟩ (fun _ h => st_pk 3 [2, 0, 1] (by decide) h)
          · refine c_if (b := (x73.Kind == 0)) rfl (fun h293 => ?_) fun h293 => ?_
            · have hm294 := ift hp77 h293
              clear hp77
              refine c_skip ?_
              obtain rfl := Option.some.inj hm294
              exact x_sub K79 ⟨rfl, rfl, rfl, rfl, rfl, rfl, rfl, rfl, rfl, rfl, rfl, rfl, rfl, rfl, trivial⟩ (fun _ h => st_pk 2 [0, 1] (by decide) h)
            · have hm294 := iff_ hp77 h293
              clear hp77
              refine c_reg ?_
              refine r_u (o_bin rfl rfl (bI_eq x73.Kind 1)) ?_
              refine r_u (o_as rfl) ?_
              refine r_nil ?_
              obtain rfl := Option.some.inj hm294
              exact x_sub K79 ⟨rfl, rfl, rfl, rfl, rfl, rfl, rfl, rfl, rfl, rfl, rfl, rfl, rfl, rfl, trivial⟩ (fun _ h => st_pk 2 [0, 1] (by decide) h)
        · have hm72 := iff_ hm69 h71
          clear hm69
          refine c_exit (x_exit (ks' := _) rfl ?_)
          obtain rfl := Option.some.inj hm72
          exact x_sub (K30 _ rfl _ le64 (pv66, g67)) ⟨rfl, trivial⟩ (fun _ h => st_pk 1 [0] (by decide) h)
  · refine c_blk ?_
    refine cd_loopG (M := fun k298 (s : List api_Op × Int × Value) => hawthornlaw21_ClientPlays_l2 a0 k298 s.1 s.2.1 = some p1) (Ef := fun (s : List api_Op × Int × Value) => [(0, vI a0), (1, v1_), (5, s.2.2), (6, vI s.2.1)]) (Rf := fun (s : List api_Op × Int × Value) => R) (Lf := fun (s : List api_Op × Int × Value) => OwS true 32 5 api_Op.c s.2.2 s.1 :: F) (((iand a0 7) - 0).toNat + 1) ([], 0, v0) hp3 ⟨rfl, rfl, rfl, rfl, trivial⟩ (fun _ h => st_pk 1 [0] (by decide) h) (fun _ h => by cases h) fun k298 s hM300 => ?_
    obtain ⟨calls_295, i_296, g297⟩ := s
    have hm299 : hawthornlaw21_ClientPlays_l2 a0 (k298 + 1) calls_295 i_296 = some p1 := hM300
    rw [hawthornlaw21_ClientPlays_l2] at hm299
    refine c_seq ?_
    refine c_seq ?_
    refine c_reg ?_
    refine r_u (o_mv rfl) ?_
    refine r_u (o_mv rfl) ?_
    refine r_u (o_bin rfl rfl (bI_and a0 7)) ?_
    refine r_u (o_bin rfl rfl (bI_lt i_296 (iand a0 7))) ?_
    refine r_nil ?_
    refine x_seq ?_
    refine c_if (b := decide (i_296 < (iand a0 7))) rfl (fun h301 => ?_) fun h301 => ?_
    · have hm302 := ift hm299 h301
      clear hm299
      refine c_skip ?_
      refine x_seq ?_
      refine c_seq ?_
      refine c_blk ?_
      refine c_reg ?_
      refine r_u (o_mv rfl) ?_
      refine r_u (o_mv rfl) ?_
      refine r_u (o_bin rfl rfl (bI_add 97 i_296)) ?_
      refine r_u (o_cv rfl (cIY Try.underlying3 Try.underlying5 (i64 (97 + i_296)))) ?_
      refine r_sw (s_w (o_bsl (en := eY) (sz := 1) (e := 5) (cs := [vY (toY (i64 (97 + i_296)))]) (r := [toY (i64 (97 + i_296))]) rfl (fun _ => by kernel_rfl) rfl (by decide) rfl (fun _ => rfl))) ?_
      rintro v303 R _ _ ⟨rfl, rfl⟩
      refine r_u (o_bs 0 Try.underlying45 Try.underlying5 Try.underlying9 rfl rfl) ?_
      refine r_u (o_bld [vI 2, vS [107], vS [toY (i64 (97 + i_296))], vW 0, vW 0] rfl (fun _ => by kernel_rfl)) ?_
      refine r_sw (s_w (o_bsl (en := api_Op.c) (sz := 5) (e := 32) (cs := [vI 2, vS [107], vS [toY (i64 (97 + i_296))], vW 0, vW 0]) (r := [(⟨2, [107], [toY (i64 (97 + i_296))], 0, 0⟩ : api_Op)]) rfl (fun _ => by kernel_rfl) rfl (by decide) rfl (fun _ => rfl))) ?_
      rintro v304 R _ _ ⟨rfl, rfl⟩
      obtain ⟨l306, hl306, hm307⟩ := bs hm302
      clear hm302
      refine rl_st (fun _ h => st_pk 3 [2, 0, 1] (by decide) h) ?_
      refine r_sw (s_w (o_ap (sz := 5) (bytes := 56) 0 Try.underlying48 rfl rfl rfl rfl rfl (by decide) (by decide) (fun _ _ _ h => by simp [api_Op.c] at h; rcases h with rfl | rfl | rfl | rfl | rfl <;> rfl) (fun _ => rfl) rfl rfl rfl rfl (Nat.succ_pos _) hl306)) ?_
      rintro v305 R _ _ ⟨rfl, rfl⟩
      refine r_u (o_as rfl) ?_
      refine r_nil ?_
      refine x_blk ?_
      refine x_seq ?_
      refine c_reg ?_
      refine r_u (o_mv rfl) ?_
      refine r_u (o_bin rfl rfl (bI_add i_296 1)) ?_
      refine r_u (o_as rfl) ?_
      refine r_nil ?_
      exact x_lp (l306, i64 (i_296 + 1), v305) hm307 ⟨rfl, rfl, rfl, rfl, trivial⟩ (fun _ h => st_pk 3 [0] (by decide) h)
    · have hm302 := iff_ hm299 h301
      clear hm299
      refine c_exit (x_exit (ks' := _) rfl ?_)
      obtain rfl := Option.some.inj hm302
      exact x_sub (K5 g297) ⟨rfl, rfl, trivial⟩ (fun _ h => st_pk 1 [0] (by decide) h)

def client_Client_Epochs (a0 : client_Client) : Option (List UInt64) :=
  (apd 8 [] a0.epochs).bind fun l4 => some l4
theorem client_Client_Epochs.ok {G R F} (b0_ : Nat) (a0 : client_Client) (g0_ : client_Client.G) (r : List UInt64) (hm : client_Client_Epochs a0 = some r) : CO Try.prog 23 [pt b0_ 0] G R (Bk b0_ 97 [vI a0.n, g0_.l, vI a0.at_, vI a0.to, vI a0.since, vI a0.began, vB a0.under, g0_.heard, g0_.epochs] :: OwS true 32 5 api_Op.c g0_.l a0.l :: OwS true 65 9 api_Heard.c g0_.heard a0.heard :: OwS true 22 1 eW g0_.epochs a0.epochs :: F)
    (Ret fun u R' L' => ∃ p0, u = p0 ∧ R' = R ∧ L' = OwS true 22 1 eW p0 r :: Bk b0_ 97 [vI a0.n, g0_.l, vI a0.at_, vI a0.to, vI a0.since, vI a0.began, vB a0.under, g0_.heard, g0_.epochs] :: OwS true 32 5 api_Op.c g0_.l a0.l :: OwS true 65 9 api_Heard.c g0_.heard a0.heard :: OwS true 22 1 eW g0_.epochs a0.epochs :: F) := by
  unfold client_Client_Epochs at hm
  refine co_ofN (N := 10) Try.func23 rfl rfl ?_
  refine c_seq ?_
  refine c_reg ?_
  refine r_u (o_as rfl) ?_
  refine r_nil ?_
  refine x_seq ?_
  refine c_seq ?_
  refine c_seq ?_
  refine c_reg ?_
  refine r_u (o_mv rfl) ?_
  refine r_u (o_bin rfl rfl (bP_eqp Try.underlying49)) ?_
  refine r_nil ?_
  refine x_seq ?_
  refine c_ff rfl ?_
  refine c_skip ?_
  refine x_seq ?_
  refine c_seq ?_
  refine c_reg ?_
  refine r_u (o_mv rfl) ?_
  refine r_u (o_nc rfl) ?_
  refine r_u (o_fa fa97_8 rfl) ?_
  refine r_u (o_ld 0 sc67 rfl rfl rfl) ?_
  obtain ⟨l4, hl4, hm5⟩ := bs hm
  clear hm
  refine rl_st (fun _ h => st_pk 4 [3, 0, 1, 2] (by decide) h) ?_
  refine r_sw (s_w (o_call ca52 rfl (clone52.okO rfl hl4))) ?_
  rintro v3 R _ _ ⟨rfl, rfl⟩
  refine r_u (o_as rfl) ?_
  refine r_nil ?_
  refine x_seq ?_
  refine c_ret ?_
  obtain rfl := Option.some.inj hm5
  refine ex_st (fun _ h => st_pk 5 [0, 2, 3, 4, 1] (by decide) h) ?_
  exact x_r1 rfl (rv_t rfl) (Le.refl _) ⟨_, rfl, v3, rfl, rfl, rfl⟩

end Go.Proofs.Ythngfieikhillaa
