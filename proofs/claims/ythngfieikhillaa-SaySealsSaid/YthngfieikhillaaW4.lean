import Derived.Test.YthngfieikhillaaW3
import Derived.Test.YthngfieikhillaaFacts
import Derived.Test.YthngfieikhillaaHwU
set_option linter.unusedVariables false
set_option linter.unusedSectionVars false
set_option linter.unusedSimpArgs false
set_option maxRecDepth 100000
set_option maxHeartbeats 8000000
namespace Go.Proofs.Ythngfieikhillaa
open Go Go.Proofs.Ythngfieikhillaa.Hw
def say_Put_l0 (a0 : api_Say) : Nat → Str → Int → Option (Str)
  | 0, _, _ => none
  | k145 + 1, s_143, s_144 => if decide (s_144 < (a0.Sums.length : Int)) then (gi a0.Sums s_144).bind fun x150 => if s_143.length + x150.length ≤ maxS then say_Put_l0 a0 k145 (s_143 ++ x150) (i64 (s_144 + 1)) else none else some s_143
def say_Put (a0 : api_Say) : Option Str :=
  (wire_Num (toW a0.Kind)).bind fun r1 => Option.bind (if ((a0.Kind != 1) && (a0.Kind != 13)) then (cell_Put a0.View).bind fun r198 => if r1.length + r198.length ≤ maxS then some (r1 ++ r198) else none else some r1) fun p3 => Option.bind (Option.bind (if (a0.Kind == 3) then (wire_Num a0.Ballot).bind fun r17 => if p3.length + r17.length ≤ maxS then some (p3 ++ r17) else none else Option.bind (if (a0.Kind == 5) then (wire_Num a0.Ballot).bind fun r27 => (cell_Put a0.Value).bind fun r29 => if r27.length + r29.length ≤ maxS then if p3.length + (r27 ++ r29).length ≤ maxS then some (p3 ++ (r27 ++ r29)) else none else none else Option.bind (if (a0.Kind == 4) then some (a0.Kind == 4) else some (a0.Kind == 6)) fun p35 => Option.bind (if p35 then (wire_Num a0.Ballot).bind fun r45 => (say_putPromise a0.Promise).bind fun r47 => if r45.length + r47.length ≤ maxS then if p3.length + (r45 ++ r47).length ≤ maxS then some (p3 ++ (r45 ++ r47)) else none else none else Option.bind (if (a0.Kind == 7) then (wire_Num a0.Done).bind fun r59 => (say_list_api_Record_f84 a0.Records).bind fun r61 => if r59.length + r61.length ≤ maxS then if p3.length + (r59 ++ r61).length ≤ maxS then some (p3 ++ (r59 ++ r61)) else none else none else Option.bind (if (a0.Kind == 8) then (wire_Num a0.Seq).bind fun r73 => if p3.length + r73.length ≤ maxS then some (p3 ++ r73) else none else Option.bind (if (a0.Kind == 9) then (wire_Num a0.Life).bind fun r83 => if p3.length + r83.length ≤ maxS then some (p3 ++ r83) else none else Option.bind (if (a0.Kind == 10) then (wire_Num a0.Life).bind fun r93 => (wire_Num a0.Seq).bind fun r95 => if r93.length + r95.length ≤ maxS then (say_putPiece a0.Piece).bind fun r99 => if (r93 ++ r95).length + r99.length ≤ maxS then if p3.length + ((r93 ++ r95) ++ r99).length ≤ maxS then some (p3 ++ ((r93 ++ r95) ++ r99)) else none else none else none else Option.bind (if (a0.Kind == 11) then (wire_Num a0.Life).bind fun r111 => (wire_Num a0.Seq).bind fun r113 => if r111.length + r113.length ≤ maxS then (wire_Num (toW a0.Piece.N)).bind fun r117 => if (r111 ++ r113).length + r117.length ≤ maxS then if p3.length + ((r111 ++ r113) ++ r117).length ≤ maxS then some (p3 ++ ((r111 ++ r113) ++ r117)) else none else none else none else Option.bind (if (a0.Kind == 12) then (wire_Num a0.Life).bind fun r129 => (wire_Num a0.Seq).bind fun r131 => if r129.length + r131.length ≤ maxS then if (r129 ++ r131).length + a0.Digest.length ≤ maxS then if p3.length + ((r129 ++ r131) ++ a0.Digest).length ≤ maxS then Option.bind (say_Put_l0 a0 (((a0.Sums.length : Int) - 0).toNat + 1) (p3 ++ ((r129 ++ r131) ++ a0.Digest)) 0) fun p139 => some p139 else none else none else none else Option.bind (if (a0.Kind == 13) then (wire_Num a0.Session).bind fun r160 => (wire_Num a0.Num).bind fun r162 => if r160.length + r162.length ≤ maxS then (op_Put a0.Op).bind fun r166 => if (r160 ++ r162).length + r166.length ≤ maxS then if p3.length + ((r160 ++ r162) ++ r166).length ≤ maxS then some (p3 ++ ((r160 ++ r162) ++ r166)) else none else none else none else Option.bind (if (a0.Kind == 14) then (wire_Num a0.Session).bind fun r178 => (wire_Num a0.Num).bind fun r180 => if r178.length + r180.length ≤ maxS then (wire_Num a0.Seq).bind fun r184 => if (r178 ++ r180).length + r184.length ≤ maxS then (op_PutReply a0.Reply).bind fun r188 => if ((r178 ++ r180) ++ r184).length + r188.length ≤ maxS then if p3.length + (((r178 ++ r180) ++ r184) ++ r188).length ≤ maxS then some (p3 ++ (((r178 ++ r180) ++ r184) ++ r188)) else none else none else none else none else some p3) fun p172 => some p172) fun p154 => some p154) fun p123 => some p123) fun p105 => some p105) fun p87 => some p87) fun p77 => some p77) fun p67 => some p67) fun p53 => some p53) fun p39 => some p39) fun p21 => some p21) fun p11 => some p11) fun p7 => some p7
theorem say_Put.ok {G R F} (a0 : api_Say) (g0_ : api_Say.G) (h0 : api_Say.ro R a0 g0_) (r : Str) (hm : say_Put a0 = some r) : CO Try.prog 39 [.agg [vI a0.Kind, vW a0.View.V, vI a0.View.Primary, vW a0.View.PLife, vI a0.View.Backup, vW a0.View.BLife, vW a0.View.Epoch, vW a0.Value.V, vI a0.Value.Primary, vW a0.Value.PLife, vI a0.Value.Backup, vW a0.Value.BLife, vW a0.Value.Epoch, vW a0.Ballot, vB a0.Promise.OK, vW a0.Promise.V, vW a0.Promise.Most, vW a0.Promise.Ballot, vW a0.Promise.Value.V, vI a0.Promise.Value.Primary, vW a0.Promise.Value.PLife, vI a0.Promise.Value.Backup, vW a0.Promise.Value.BLife, vW a0.Promise.Value.Epoch, vW a0.Promise.Chosen.V, vI a0.Promise.Chosen.Primary, vW a0.Promise.Chosen.PLife, vI a0.Promise.Chosen.Backup, vW a0.Promise.Chosen.BLife, vW a0.Promise.Chosen.Epoch, vW a0.Seq, vW a0.Done, vW a0.Life, g0_.Records, vI a0.Piece.N, vI a0.Piece.Of, vS a0.Piece.Data, vS a0.Piece.Sum, vS a0.Piece.Whole, vS a0.Digest, g0_.Sums, vW a0.Session, vW a0.Num, vI a0.Op.Kind, vS a0.Op.Key, vS a0.Op.Value, vW a0.Op.TTL, vW a0.Op.Version, vI a0.Reply.E, vS a0.Reply.Value, vW a0.Reply.Version].toArray] G R (F)
    (Ret fun u R' L' => u = vS r ∧ R' = R ∧ L' = F) := by
  unfold say_Put at hm
  refine co_ofN (N := 172) Try.func39 rfl rfl ?_
  refine c_seq ?_
  refine c_reg ?_
  refine r_new (o_bx [vI a0.Kind, vW a0.View.V, vI a0.View.Primary, vW a0.View.PLife, vI a0.View.Backup, vW a0.View.BLife, vW a0.View.Epoch, vW a0.Value.V, vI a0.Value.Primary, vW a0.Value.PLife, vI a0.Value.Backup, vW a0.Value.BLife, vW a0.Value.Epoch, vW a0.Ballot, vB a0.Promise.OK, vW a0.Promise.V, vW a0.Promise.Most, vW a0.Promise.Ballot, vW a0.Promise.Value.V, vI a0.Promise.Value.Primary, vW a0.Promise.Value.PLife, vI a0.Promise.Value.Backup, vW a0.Promise.Value.BLife, vW a0.Promise.Value.Epoch, vW a0.Promise.Chosen.V, vI a0.Promise.Chosen.Primary, vW a0.Promise.Chosen.PLife, vI a0.Promise.Chosen.Backup, vW a0.Promise.Chosen.BLife, vW a0.Promise.Chosen.Epoch, vW a0.Seq, vW a0.Done, vW a0.Life, g0_.Records, vI a0.Piece.N, vI a0.Piece.Of, vS a0.Piece.Data, vS a0.Piece.Sum, vS a0.Piece.Whole, vS a0.Digest, g0_.Sums, vW a0.Session, vW a0.Num, vI a0.Op.Kind, vS a0.Op.Key, vS a0.Op.Value, vW a0.Op.TTL, vW a0.Op.Version, vI a0.Reply.E, vS a0.Reply.Value, vW a0.Reply.Version] rfl rfl) fun b0 => ?_
  refine r_u (o_as rfl) ?_
  refine r_nil ?_
  refine x_seq ?_
  refine c_seq ?_
  refine c_reg ?_
  refine r_u (o_fa fa37_0 rfl) ?_
  refine r_u (o_ld 0 sc3 rfl rfl rfl) ?_
  refine r_u (o_cv rfl (cIW Try.underlying3 Try.underlying22 a0.Kind)) ?_
  obtain ⟨r1, hr1, hm2⟩ := bs hm
  clear hm
  refine r_u (o_callq ca68 rfl (wire_Num.ok (toW a0.Kind) r1 hr1)) ?_
  refine r_u (o_as rfl) ?_
  refine r_nil ?_
  refine x_seq ?_
  refine c_seq ?_
  refine c_seq ?_
  refine c_reg ?_
  refine r_u (o_fa fa37_0 rfl) ?_
  refine r_u (o_ld 0 sc3 rfl rfl rfl) ?_
  refine r_u (o_bin rfl rfl (bI_ne a0.Kind 1)) ?_
  refine r_u (o_mv rfl) ?_
  refine r_s (s_gt rfl rfl fun g => o_fa fa37_0 rfl) ?_
  refine r_s (s_gt rfl rfl fun g => o_ld 0 sc3 (evg rfl g) rfl rfl) ?_
  refine r_s (s_gt rfl rfl fun g => o_bin (evg rfl g) rfl (bI_ne a0.Kind 13)) ?_
  refine r_u (o_and rfl rfl) ?_
  refine r_nil ?_
  refine x_seq ?_
  obtain ⟨p3, hp4, hm5⟩ := bs hm2
  refine cd_join (E' := [(1, pt b0 0), (3, vS p3)]) (L' := Bk b0 37 [vI a0.Kind, vW a0.View.V, vI a0.View.Primary, vW a0.View.PLife, vI a0.View.Backup, vW a0.View.BLife, vW a0.View.Epoch, vW a0.Value.V, vI a0.Value.Primary, vW a0.Value.PLife, vI a0.Value.Backup, vW a0.Value.BLife, vW a0.Value.Epoch, vW a0.Ballot, vB a0.Promise.OK, vW a0.Promise.V, vW a0.Promise.Most, vW a0.Promise.Ballot, vW a0.Promise.Value.V, vI a0.Promise.Value.Primary, vW a0.Promise.Value.PLife, vI a0.Promise.Value.Backup, vW a0.Promise.Value.BLife, vW a0.Promise.Value.Epoch, vW a0.Promise.Chosen.V, vI a0.Promise.Chosen.Primary, vW a0.Promise.Chosen.PLife, vI a0.Promise.Chosen.Backup, vW a0.Promise.Chosen.BLife, vW a0.Promise.Chosen.Epoch, vW a0.Seq, vW a0.Done, vW a0.Life, g0_.Records, vI a0.Piece.N, vI a0.Piece.Of, vS a0.Piece.Data, vS a0.Piece.Sum, vS a0.Piece.Whole, vS a0.Digest, g0_.Sums, vW a0.Session, vW a0.Num, vI a0.Op.Kind, vS a0.Op.Key, vS a0.Op.Value, vW a0.Op.TTL, vW a0.Op.Version, vI a0.Reply.E, vS a0.Reply.Value, vW a0.Reply.Version] :: F) ?_ fun K6 => ?_
  · refine x_seq ?_
    refine c_seq ?_
    refine c_seq ?_
    refine c_reg ?_
    refine r_u (o_fa fa37_0 rfl) ?_
    refine r_u (o_ld 0 sc3 rfl rfl rfl) ?_
    refine r_nil ?_
    refine x_seq ?_
    obtain ⟨p7, hp8, hm9⟩ := bs hm5
    refine cd_join (E' := [(3, vS p7)]) (L' := Bk b0 37 [vI a0.Kind, vW a0.View.V, vI a0.View.Primary, vW a0.View.PLife, vI a0.View.Backup, vW a0.View.BLife, vW a0.View.Epoch, vW a0.Value.V, vI a0.Value.Primary, vW a0.Value.PLife, vI a0.Value.Backup, vW a0.Value.BLife, vW a0.Value.Epoch, vW a0.Ballot, vB a0.Promise.OK, vW a0.Promise.V, vW a0.Promise.Most, vW a0.Promise.Ballot, vW a0.Promise.Value.V, vI a0.Promise.Value.Primary, vW a0.Promise.Value.PLife, vI a0.Promise.Value.Backup, vW a0.Promise.Value.BLife, vW a0.Promise.Value.Epoch, vW a0.Promise.Chosen.V, vI a0.Promise.Chosen.Primary, vW a0.Promise.Chosen.PLife, vI a0.Promise.Chosen.Backup, vW a0.Promise.Chosen.BLife, vW a0.Promise.Chosen.Epoch, vW a0.Seq, vW a0.Done, vW a0.Life, g0_.Records, vI a0.Piece.N, vI a0.Piece.Of, vS a0.Piece.Data, vS a0.Piece.Sum, vS a0.Piece.Whole, vS a0.Digest, g0_.Sums, vW a0.Session, vW a0.Num, vI a0.Op.Kind, vS a0.Op.Key, vS a0.Op.Value, vW a0.Op.TTL, vW a0.Op.Version, vI a0.Reply.E, vS a0.Reply.Value, vW a0.Reply.Version] :: F) ?_ fun K10 => ?_
    · refine x_seq ?_
      refine c_seq ?_
      refine c_reg ?_
      refine r_u (o_mv rfl) ?_
      refine r_u (o_as rfl) ?_
      refine r_nil ?_
      refine x_seq ?_
      refine c_ret ?_
      obtain rfl := Option.some.inj hm9
      refine ex_st (fun _ h => st_pk 1 [] (by decide) h) ?_
      exact x_r1 rfl (rv_t rfl) (Le.refl _) ⟨_, rfl, rfl, rfl, rfl⟩
    · refine c_blk ?_
      refine c_seq ?_
      refine c_reg ?_
      refine r_u (o_bin rfl rfl (bI_eq a0.Kind 3)) ?_
      refine r_u (o_as rfl) ?_
      refine r_nil ?_
      refine x_seq ?_
      obtain ⟨p11, hp12, hm13⟩ := bs hp8
      refine cd_join (E' := [(3, vS p11)]) (L' := Bk b0 37 [vI a0.Kind, vW a0.View.V, vI a0.View.Primary, vW a0.View.PLife, vI a0.View.Backup, vW a0.View.BLife, vW a0.View.Epoch, vW a0.Value.V, vI a0.Value.Primary, vW a0.Value.PLife, vI a0.Value.Backup, vW a0.Value.BLife, vW a0.Value.Epoch, vW a0.Ballot, vB a0.Promise.OK, vW a0.Promise.V, vW a0.Promise.Most, vW a0.Promise.Ballot, vW a0.Promise.Value.V, vI a0.Promise.Value.Primary, vW a0.Promise.Value.PLife, vI a0.Promise.Value.Backup, vW a0.Promise.Value.BLife, vW a0.Promise.Value.Epoch, vW a0.Promise.Chosen.V, vI a0.Promise.Chosen.Primary, vW a0.Promise.Chosen.PLife, vI a0.Promise.Chosen.Backup, vW a0.Promise.Chosen.BLife, vW a0.Promise.Chosen.Epoch, vW a0.Seq, vW a0.Done, vW a0.Life, g0_.Records, vI a0.Piece.N, vI a0.Piece.Of, vS a0.Piece.Data, vS a0.Piece.Sum, vS a0.Piece.Whole, vS a0.Digest, g0_.Sums, vW a0.Session, vW a0.Num, vI a0.Op.Kind, vS a0.Op.Key, vS a0.Op.Value, vW a0.Op.TTL, vW a0.Op.Version, vI a0.Reply.E, vS a0.Reply.Value, vW a0.Reply.Version] :: F) ?_ fun K14 => ?_
      · refine x_blk ?_
        obtain rfl := Option.some.inj hm13
        exact x_sub K10 ⟨rfl, trivial⟩ (fun _ h => st_pk 1 [0] (by decide) h)
      · refine c_if (b := (a0.Kind == 3)) rfl (fun h15 => ?_) fun h15 => ?_
        · have hm16 := ift hp12 h15
          clear hp12
          refine c_reg ?_
          refine r_u (o_mv rfl) ?_
          refine r_u (o_fa fa37_3 rfl) ?_
          refine r_u (o_ld 0 sc22 rfl rfl rfl) ?_
          obtain ⟨r17, hr17, hm18⟩ := bs hm16
          clear hm16
          refine r_u (o_callq ca68 rfl (wire_Num.ok a0.Ballot r17 hr17)) ?_
          obtain ⟨h19, hm20⟩ := ig hm18
          clear hm18
          refine r_u (o_bin rfl rfl (bS_add p3 r17 h19)) ?_
          refine r_u (o_as rfl) ?_
          refine r_nil ?_
          obtain rfl := Option.some.inj hm20
          exact x_sub K14 ⟨rfl, trivial⟩ (fun _ h => st_pk 1 [0] (by decide) h)
        · have hm16 := iff_ hp12 h15
          clear hp12
          refine c_seq ?_
          refine c_reg ?_
          refine r_u (o_bin rfl rfl (bI_eq a0.Kind 5)) ?_
          refine r_u (o_as rfl) ?_
          refine r_nil ?_
          refine x_seq ?_
          obtain ⟨p21, hp22, hm23⟩ := bs hm16
          refine cd_join (E' := [(3, vS p21)]) (L' := Bk b0 37 [vI a0.Kind, vW a0.View.V, vI a0.View.Primary, vW a0.View.PLife, vI a0.View.Backup, vW a0.View.BLife, vW a0.View.Epoch, vW a0.Value.V, vI a0.Value.Primary, vW a0.Value.PLife, vI a0.Value.Backup, vW a0.Value.BLife, vW a0.Value.Epoch, vW a0.Ballot, vB a0.Promise.OK, vW a0.Promise.V, vW a0.Promise.Most, vW a0.Promise.Ballot, vW a0.Promise.Value.V, vI a0.Promise.Value.Primary, vW a0.Promise.Value.PLife, vI a0.Promise.Value.Backup, vW a0.Promise.Value.BLife, vW a0.Promise.Value.Epoch, vW a0.Promise.Chosen.V, vI a0.Promise.Chosen.Primary, vW a0.Promise.Chosen.PLife, vI a0.Promise.Chosen.Backup, vW a0.Promise.Chosen.BLife, vW a0.Promise.Chosen.Epoch, vW a0.Seq, vW a0.Done, vW a0.Life, g0_.Records, vI a0.Piece.N, vI a0.Piece.Of, vS a0.Piece.Data, vS a0.Piece.Sum, vS a0.Piece.Whole, vS a0.Digest, g0_.Sums, vW a0.Session, vW a0.Num, vI a0.Op.Kind, vS a0.Op.Key, vS a0.Op.Value, vW a0.Op.TTL, vW a0.Op.Version, vI a0.Reply.E, vS a0.Reply.Value, vW a0.Reply.Version] :: F) ?_ fun K24 => ?_
          · obtain rfl := Option.some.inj hm23
            exact x_sub K14 ⟨rfl, trivial⟩ (fun _ h => st_pk 1 [0] (by decide) h)
          · refine c_if (b := (a0.Kind == 5)) rfl (fun h25 => ?_) fun h25 => ?_
            · have hm26 := ift hp22 h25
              clear hp22
              obtain ⟨r27, hr27, hm28⟩ := bs hm26
              clear hm26
              obtain ⟨r29, hr29, hm30⟩ := bs hm28
              clear hm28
              obtain ⟨h31, hm32⟩ := ig hm30
              clear hm30
              obtain ⟨h33, hm34⟩ := ig hm32
              clear hm32
              refine c_any mixed (effs := []) (V := []) ?_
              refine stage_ext [(0, vS p3), (1, pt b0 13), (2, vW a0.Ballot), (3, vS r27), (4, pt b0 7), (5, .agg (api_View.c a0.Value).toArray), (6, vS r29), (7, vS (r27 ++ r29)), (8, vS (p3 ++ (r27 ++ r29))), (9, vS (p3 ++ (r27 ++ r29)))] rfl ?_
              refine stage rfl rfl rfl rfl [0, 0, 2, 6, 0, 16, 62, 126, 255, 511] [0, 1, 2, 3, 4, 5, 6, 7, 8, 9] [] rfl rfl rfl (qc rfl rfl (s_u (o_mv rfl)) (qc rfl rfl (s_u (o_fa fa37_3 rfl)) (qc rfl rfl (s_u (o_ld 0 sc22 rfl rfl rfl)) (qc rfl rfl (s_u (o_callq ca68 rfl (wire_Num.ok a0.Ballot r27 hr27))) (qc rfl rfl (s_u (o_fa fa37_2 rfl)) (qc rfl rfl (s_u (o_ldn 0 (api_View.c a0.Value) ag24 rfl rfl rfl rfl)) (qc rfl rfl (s_u (o_callq ca81 rfl (cell_Put.ok a0.Value r29 hr29))) (qc rfl rfl (s_u (o_bin rfl rfl (bS_add r27 r29 h31))) (qc rfl rfl (s_u (o_bin rfl rfl (bS_add p3 (r27 ++ r29) h33))) (qc rfl rfl (s_u (o_as rfl)) qn)))))))))) en ?_
              intro _
              refine ex_sub (E' := [(3, vS (p3 ++ (r27 ++ r29)))]) ⟨rfl, trivial⟩ ?_
              obtain rfl := Option.some.inj hm34
              exact x_sub K24 ⟨rfl, trivial⟩ (fun _ h => st_pk 1 [0] (by decide) h)
            · have hm26 := iff_ hp22 h25
              clear hp22
              refine c_seq ?_
              refine c_seq ?_
              refine c_reg ?_
              refine r_u (o_bin rfl rfl (bI_eq a0.Kind 4)) ?_
              refine r_u (o_as rfl) ?_
              refine r_nil ?_
              refine x_seq ?_
              obtain ⟨p35, hp36, hm37⟩ := bs hm26
              refine cd_join (E' := [(1, pt b0 0), (3, vS p3), (24, vI a0.Kind), (43, vB p35)]) (L' := Bk b0 37 [vI a0.Kind, vW a0.View.V, vI a0.View.Primary, vW a0.View.PLife, vI a0.View.Backup, vW a0.View.BLife, vW a0.View.Epoch, vW a0.Value.V, vI a0.Value.Primary, vW a0.Value.PLife, vI a0.Value.Backup, vW a0.Value.BLife, vW a0.Value.Epoch, vW a0.Ballot, vB a0.Promise.OK, vW a0.Promise.V, vW a0.Promise.Most, vW a0.Promise.Ballot, vW a0.Promise.Value.V, vI a0.Promise.Value.Primary, vW a0.Promise.Value.PLife, vI a0.Promise.Value.Backup, vW a0.Promise.Value.BLife, vW a0.Promise.Value.Epoch, vW a0.Promise.Chosen.V, vI a0.Promise.Chosen.Primary, vW a0.Promise.Chosen.PLife, vI a0.Promise.Chosen.Backup, vW a0.Promise.Chosen.BLife, vW a0.Promise.Chosen.Epoch, vW a0.Seq, vW a0.Done, vW a0.Life, g0_.Records, vI a0.Piece.N, vI a0.Piece.Of, vS a0.Piece.Data, vS a0.Piece.Sum, vS a0.Piece.Whole, vS a0.Digest, g0_.Sums, vW a0.Session, vW a0.Num, vI a0.Op.Kind, vS a0.Op.Key, vS a0.Op.Value, vW a0.Op.TTL, vW a0.Op.Version, vI a0.Reply.E, vS a0.Reply.Value, vW a0.Reply.Version] :: F) ?_ fun K38 => ?_
              · refine x_seq ?_
                obtain ⟨p39, hp40, hm41⟩ := bs hm37
                refine cd_join (E' := [(3, vS p39)]) (L' := Bk b0 37 [vI a0.Kind, vW a0.View.V, vI a0.View.Primary, vW a0.View.PLife, vI a0.View.Backup, vW a0.View.BLife, vW a0.View.Epoch, vW a0.Value.V, vI a0.Value.Primary, vW a0.Value.PLife, vI a0.Value.Backup, vW a0.Value.BLife, vW a0.Value.Epoch, vW a0.Ballot, vB a0.Promise.OK, vW a0.Promise.V, vW a0.Promise.Most, vW a0.Promise.Ballot, vW a0.Promise.Value.V, vI a0.Promise.Value.Primary, vW a0.Promise.Value.PLife, vI a0.Promise.Value.Backup, vW a0.Promise.Value.BLife, vW a0.Promise.Value.Epoch, vW a0.Promise.Chosen.V, vI a0.Promise.Chosen.Primary, vW a0.Promise.Chosen.PLife, vI a0.Promise.Chosen.Backup, vW a0.Promise.Chosen.BLife, vW a0.Promise.Chosen.Epoch, vW a0.Seq, vW a0.Done, vW a0.Life, g0_.Records, vI a0.Piece.N, vI a0.Piece.Of, vS a0.Piece.Data, vS a0.Piece.Sum, vS a0.Piece.Whole, vS a0.Digest, g0_.Sums, vW a0.Session, vW a0.Num, vI a0.Op.Kind, vS a0.Op.Key, vS a0.Op.Value, vW a0.Op.TTL, vW a0.Op.Version, vI a0.Reply.E, vS a0.Reply.Value, vW a0.Reply.Version] :: F) ?_ fun K42 => ?_
                · obtain rfl := Option.some.inj hm41
                  exact x_sub K24 ⟨rfl, trivial⟩ (fun _ h => st_pk 1 [0] (by decide) h)
                · refine c_if (b := p35) rfl (fun h43 => ?_) fun h43 => ?_
                  · have hm44 := ift hp40 h43
                    clear hp40
                    obtain ⟨r45, hr45, hm46⟩ := bs hm44
                    clear hm44
                    obtain ⟨r47, hr47, hm48⟩ := bs hm46
                    clear hm46
                    obtain ⟨h49, hm50⟩ := ig hm48
                    clear hm48
                    obtain ⟨h51, hm52⟩ := ig hm50
                    clear hm50
                    refine c_any mixed (effs := []) (V := []) ?_
                    refine stage_ext [(0, vS p3), (1, pt b0 13), (2, vW a0.Ballot), (3, vS r45), (4, pt b0 14), (5, .agg (api_Promise.c a0.Promise).toArray), (6, vS r47), (7, vS (r45 ++ r47)), (8, vS (p3 ++ (r45 ++ r47))), (9, vS (p3 ++ (r45 ++ r47)))] rfl ?_
                    refine stage rfl rfl rfl rfl [0, 0, 2, 6, 0, 16, 62, 126, 255, 511] [0, 1, 2, 3, 4, 5, 6, 7, 8, 9] [] rfl rfl rfl (qc rfl rfl (s_u (o_mv rfl)) (qc rfl rfl (s_u (o_fa fa37_3 rfl)) (qc rfl rfl (s_u (o_ld 0 sc22 rfl rfl rfl)) (qc rfl rfl (s_u (o_callq ca68 rfl (wire_Num.ok a0.Ballot r45 hr45))) (qc rfl rfl (s_u (o_fa fa37_4 rfl)) (qc rfl rfl (s_u (o_ldn 0 (api_Promise.c a0.Promise) ag26 rfl rfl rfl rfl)) (qc rfl rfl (s_u (o_callq ca82 rfl (say_putPromise.ok a0.Promise r47 hr47))) (qc rfl rfl (s_u (o_bin rfl rfl (bS_add r45 r47 h49))) (qc rfl rfl (s_u (o_bin rfl rfl (bS_add p3 (r45 ++ r47) h51))) (qc rfl rfl (s_u (o_as rfl)) qn)))))))))) en ?_
                    intro _
                    refine ex_sub (E' := [(3, vS (p3 ++ (r45 ++ r47)))]) ⟨rfl, trivial⟩ ?_
                    obtain rfl := Option.some.inj hm52
                    exact x_sub K42 ⟨rfl, trivial⟩ (fun _ h => st_pk 1 [0] (by decide) h)
                  · have hm44 := iff_ hp40 h43
                    clear hp40
                    refine c_seq ?_
                    refine c_reg ?_
                    refine r_u (o_bin rfl rfl (bI_eq a0.Kind 7)) ?_
                    refine r_u (o_as rfl) ?_
                    refine r_nil ?_
                    refine x_seq ?_
                    obtain ⟨p53, hp54, hm55⟩ := bs hm44
                    refine cd_join (E' := [(3, vS p53)]) (L' := Bk b0 37 [vI a0.Kind, vW a0.View.V, vI a0.View.Primary, vW a0.View.PLife, vI a0.View.Backup, vW a0.View.BLife, vW a0.View.Epoch, vW a0.Value.V, vI a0.Value.Primary, vW a0.Value.PLife, vI a0.Value.Backup, vW a0.Value.BLife, vW a0.Value.Epoch, vW a0.Ballot, vB a0.Promise.OK, vW a0.Promise.V, vW a0.Promise.Most, vW a0.Promise.Ballot, vW a0.Promise.Value.V, vI a0.Promise.Value.Primary, vW a0.Promise.Value.PLife, vI a0.Promise.Value.Backup, vW a0.Promise.Value.BLife, vW a0.Promise.Value.Epoch, vW a0.Promise.Chosen.V, vI a0.Promise.Chosen.Primary, vW a0.Promise.Chosen.PLife, vI a0.Promise.Chosen.Backup, vW a0.Promise.Chosen.BLife, vW a0.Promise.Chosen.Epoch, vW a0.Seq, vW a0.Done, vW a0.Life, g0_.Records, vI a0.Piece.N, vI a0.Piece.Of, vS a0.Piece.Data, vS a0.Piece.Sum, vS a0.Piece.Whole, vS a0.Digest, g0_.Sums, vW a0.Session, vW a0.Num, vI a0.Op.Kind, vS a0.Op.Key, vS a0.Op.Value, vW a0.Op.TTL, vW a0.Op.Version, vI a0.Reply.E, vS a0.Reply.Value, vW a0.Reply.Version] :: F) ?_ fun K56 => ?_
                    · obtain rfl := Option.some.inj hm55
                      exact x_sub K42 ⟨rfl, trivial⟩ (fun _ h => st_pk 1 [0] (by decide) h)
                    · refine c_if (b := (a0.Kind == 7)) rfl (fun h57 => ?_) fun h57 => ?_
                      · have hm58 := ift hp54 h57
                        clear hp54
                        obtain ⟨r59, hr59, hm60⟩ := bs hm58
                        clear hm58
                        obtain ⟨r61, hr61, hm62⟩ := bs hm60
                        clear hm60
                        obtain ⟨h63, hm64⟩ := ig hm62
                        clear hm62
                        obtain ⟨h65, hm66⟩ := ig hm64
                        clear hm64
                        refine c_any mixed (effs := []) (V := []) ?_
                        refine stage_ext [(0, vS p3), (1, pt b0 31), (2, vW a0.Done), (3, vS r59), (4, pt b0 33), (5, g0_.Records), (6, vS r61), (7, vS (r59 ++ r61)), (8, vS (p3 ++ (r59 ++ r61))), (9, vS (p3 ++ (r59 ++ r61)))] rfl ?_
                        refine stage rfl rfl rfl rfl [0, 0, 2, 6, 0, 16, 62, 126, 255, 511] [0, 1, 2, 3, 4, 5, 6, 7, 8, 9] [] rfl rfl rfl (qc rfl rfl (s_u (o_mv rfl)) (qc rfl rfl (s_u (o_fa fa37_6 rfl)) (qc rfl rfl (s_u (o_ld 0 sc22 rfl rfl rfl)) (qc rfl rfl (s_u (o_callq ca68 rfl (wire_Num.ok a0.Done r59 hr59))) (qc rfl rfl (s_u (o_fa fa37_8 rfl)) (qc rfl rfl (s_u (o_ld 0 sc27 rfl rfl rfl)) (qc rfl rfl (s_u (o_callq ca83 rfl (say_list_api_Record_f84.ok g0_.Records a0.Records h0.1 r61 hr61))) (qc rfl rfl (s_u (o_bin rfl rfl (bS_add r59 r61 h63))) (qc rfl rfl (s_u (o_bin rfl rfl (bS_add p3 (r59 ++ r61) h65))) (qc rfl rfl (s_u (o_as rfl)) qn)))))))))) en ?_
                        intro _
                        refine ex_sub (E' := [(3, vS (p3 ++ (r59 ++ r61)))]) ⟨rfl, trivial⟩ ?_
                        obtain rfl := Option.some.inj hm66
                        exact x_sub K56 ⟨rfl, trivial⟩ (fun _ h => st_pk 1 [0] (by decide) h)
                      · have hm58 := iff_ hp54 h57
                        clear hp54
                        refine c_seq ?_
                        refine c_reg ?_
                        refine r_u (o_bin rfl rfl (bI_eq a0.Kind 8)) ?_
                        refine r_u (o_as rfl) ?_
                        refine r_nil ?_
                        refine x_seq ?_
                        obtain ⟨p67, hp68, hm69⟩ := bs hm58
                        refine cd_join (E' := [(3, vS p67)]) (L' := Bk b0 37 [vI a0.Kind, vW a0.View.V, vI a0.View.Primary, vW a0.View.PLife, vI a0.View.Backup, vW a0.View.BLife, vW a0.View.Epoch, vW a0.Value.V, vI a0.Value.Primary, vW a0.Value.PLife, vI a0.Value.Backup, vW a0.Value.BLife, vW a0.Value.Epoch, vW a0.Ballot, vB a0.Promise.OK, vW a0.Promise.V, vW a0.Promise.Most, vW a0.Promise.Ballot, vW a0.Promise.Value.V, vI a0.Promise.Value.Primary, vW a0.Promise.Value.PLife, vI a0.Promise.Value.Backup, vW a0.Promise.Value.BLife, vW a0.Promise.Value.Epoch, vW a0.Promise.Chosen.V, vI a0.Promise.Chosen.Primary, vW a0.Promise.Chosen.PLife, vI a0.Promise.Chosen.Backup, vW a0.Promise.Chosen.BLife, vW a0.Promise.Chosen.Epoch, vW a0.Seq, vW a0.Done, vW a0.Life, g0_.Records, vI a0.Piece.N, vI a0.Piece.Of, vS a0.Piece.Data, vS a0.Piece.Sum, vS a0.Piece.Whole, vS a0.Digest, g0_.Sums, vW a0.Session, vW a0.Num, vI a0.Op.Kind, vS a0.Op.Key, vS a0.Op.Value, vW a0.Op.TTL, vW a0.Op.Version, vI a0.Reply.E, vS a0.Reply.Value, vW a0.Reply.Version] :: F) ?_ fun K70 => ?_
                        · obtain rfl := Option.some.inj hm69
                          exact x_sub K56 ⟨rfl, trivial⟩ (fun _ h => st_pk 1 [0] (by decide) h)
                        · refine c_if (b := (a0.Kind == 8)) rfl (fun h71 => ?_) fun h71 => ?_
                          · have hm72 := ift hp68 h71
                            clear hp68
                            refine c_reg ?_
                            refine r_u (o_mv rfl) ?_
                            refine r_u (o_fa fa37_5 rfl) ?_
                            refine r_u (o_ld 0 sc22 rfl rfl rfl) ?_
                            obtain ⟨r73, hr73, hm74⟩ := bs hm72
                            clear hm72
                            refine r_u (o_callq ca68 rfl (wire_Num.ok a0.Seq r73 hr73)) ?_
                            obtain ⟨h75, hm76⟩ := ig hm74
                            clear hm74
                            refine r_u (o_bin rfl rfl (bS_add p3 r73 h75)) ?_
                            refine r_u (o_as rfl) ?_
                            refine r_nil ?_
                            obtain rfl := Option.some.inj hm76
                            exact x_sub K70 ⟨rfl, trivial⟩ (fun _ h => st_pk 1 [0] (by decide) h)
                          · have hm72 := iff_ hp68 h71
                            clear hp68
                            refine c_seq ?_
                            refine c_reg ?_
                            refine r_u (o_bin rfl rfl (bI_eq a0.Kind 9)) ?_
                            refine r_u (o_as rfl) ?_
                            refine r_nil ?_
                            refine x_seq ?_
                            obtain ⟨p77, hp78, hm79⟩ := bs hm72
                            refine cd_join (E' := [(3, vS p77)]) (L' := Bk b0 37 [vI a0.Kind, vW a0.View.V, vI a0.View.Primary, vW a0.View.PLife, vI a0.View.Backup, vW a0.View.BLife, vW a0.View.Epoch, vW a0.Value.V, vI a0.Value.Primary, vW a0.Value.PLife, vI a0.Value.Backup, vW a0.Value.BLife, vW a0.Value.Epoch, vW a0.Ballot, vB a0.Promise.OK, vW a0.Promise.V, vW a0.Promise.Most, vW a0.Promise.Ballot, vW a0.Promise.Value.V, vI a0.Promise.Value.Primary, vW a0.Promise.Value.PLife, vI a0.Promise.Value.Backup, vW a0.Promise.Value.BLife, vW a0.Promise.Value.Epoch, vW a0.Promise.Chosen.V, vI a0.Promise.Chosen.Primary, vW a0.Promise.Chosen.PLife, vI a0.Promise.Chosen.Backup, vW a0.Promise.Chosen.BLife, vW a0.Promise.Chosen.Epoch, vW a0.Seq, vW a0.Done, vW a0.Life, g0_.Records, vI a0.Piece.N, vI a0.Piece.Of, vS a0.Piece.Data, vS a0.Piece.Sum, vS a0.Piece.Whole, vS a0.Digest, g0_.Sums, vW a0.Session, vW a0.Num, vI a0.Op.Kind, vS a0.Op.Key, vS a0.Op.Value, vW a0.Op.TTL, vW a0.Op.Version, vI a0.Reply.E, vS a0.Reply.Value, vW a0.Reply.Version] :: F) ?_ fun K80 => ?_
                            · obtain rfl := Option.some.inj hm79
                              exact x_sub K70 ⟨rfl, trivial⟩ (fun _ h => st_pk 1 [0] (by decide) h)
                            · refine c_if (b := (a0.Kind == 9)) rfl (fun h81 => ?_) fun h81 => ?_
                              · have hm82 := ift hp78 h81
                                clear hp78
                                refine c_reg ?_
                                refine r_u (o_mv rfl) ?_
                                refine r_u (o_fa fa37_7 rfl) ?_
                                refine r_u (o_ld 0 sc22 rfl rfl rfl) ?_
                                obtain ⟨r83, hr83, hm84⟩ := bs hm82
                                clear hm82
                                refine r_u (o_callq ca68 rfl (wire_Num.ok a0.Life r83 hr83)) ?_
                                obtain ⟨h85, hm86⟩ := ig hm84
                                clear hm84
                                refine r_u (o_bin rfl rfl (bS_add p3 r83 h85)) ?_
                                refine r_u (o_as rfl) ?_
                                refine r_nil ?_
                                obtain rfl := Option.some.inj hm86
                                exact x_sub K80 ⟨rfl, trivial⟩ (fun _ h => st_pk 1 [0] (by decide) h)
                              · have hm82 := iff_ hp78 h81
                                clear hp78
                                refine c_seq ?_
                                refine c_reg ?_
                                refine r_u (o_bin rfl rfl (bI_eq a0.Kind 10)) ?_
                                refine r_u (o_as rfl) ?_
                                refine r_nil ?_
                                refine x_seq ?_
                                obtain ⟨p87, hp88, hm89⟩ := bs hm82
                                refine cd_join (E' := [(3, vS p87)]) (L' := Bk b0 37 [vI a0.Kind, vW a0.View.V, vI a0.View.Primary, vW a0.View.PLife, vI a0.View.Backup, vW a0.View.BLife, vW a0.View.Epoch, vW a0.Value.V, vI a0.Value.Primary, vW a0.Value.PLife, vI a0.Value.Backup, vW a0.Value.BLife, vW a0.Value.Epoch, vW a0.Ballot, vB a0.Promise.OK, vW a0.Promise.V, vW a0.Promise.Most, vW a0.Promise.Ballot, vW a0.Promise.Value.V, vI a0.Promise.Value.Primary, vW a0.Promise.Value.PLife, vI a0.Promise.Value.Backup, vW a0.Promise.Value.BLife, vW a0.Promise.Value.Epoch, vW a0.Promise.Chosen.V, vI a0.Promise.Chosen.Primary, vW a0.Promise.Chosen.PLife, vI a0.Promise.Chosen.Backup, vW a0.Promise.Chosen.BLife, vW a0.Promise.Chosen.Epoch, vW a0.Seq, vW a0.Done, vW a0.Life, g0_.Records, vI a0.Piece.N, vI a0.Piece.Of, vS a0.Piece.Data, vS a0.Piece.Sum, vS a0.Piece.Whole, vS a0.Digest, g0_.Sums, vW a0.Session, vW a0.Num, vI a0.Op.Kind, vS a0.Op.Key, vS a0.Op.Value, vW a0.Op.TTL, vW a0.Op.Version, vI a0.Reply.E, vS a0.Reply.Value, vW a0.Reply.Version] :: F) ?_ fun K90 => ?_
                                · obtain rfl := Option.some.inj hm89
                                  exact x_sub K80 ⟨rfl, trivial⟩ (fun _ h => st_pk 1 [0] (by decide) h)
                                · refine c_if (b := (a0.Kind == 10)) rfl (fun h91 => ?_) fun h91 => ?_
                                  · have hm92 := ift hp88 h91
                                    clear hp88
                                    obtain ⟨r93, hr93, hm94⟩ := bs hm92
                                    clear hm92
                                    obtain ⟨r95, hr95, hm96⟩ := bs hm94
                                    clear hm94
                                    obtain ⟨h97, hm98⟩ := ig hm96
                                    clear hm96
                                    obtain ⟨r99, hr99, hm100⟩ := bs hm98
                                    clear hm98
                                    obtain ⟨h101, hm102⟩ := ig hm100
                                    clear hm100
                                    obtain ⟨h103, hm104⟩ := ig hm102
                                    clear hm102
                                    refine c_any mixed (effs := []) (V := []) ?_
                                    refine stage_ext [(0, vS p3), (1, pt b0 32), (2, vW a0.Life), (3, vS r93), (4, pt b0 30), (5, vW a0.Seq), (6, vS r95), (7, vS (r93 ++ r95)), (8, pt b0 34), (9, .agg (api_Piece.c a0.Piece).toArray), (10, vS r99), (11, vS ((r93 ++ r95) ++ r99)), (12, vS (p3 ++ ((r93 ++ r95) ++ r99))), (13, vS (p3 ++ ((r93 ++ r95) ++ r99)))] rfl ?_
                                    refine stage rfl rfl rfl rfl [0, 0, 2, 6, 0, 16, 62, 126, 0, 256, 894, 2046, 4095, 8191] [0, 1, 2, 3, 4, 5, 6, 7, 8, 9, 10, 11, 12, 13] [] rfl rfl rfl (qc rfl rfl (s_u (o_mv rfl)) (qc rfl rfl (s_u (o_fa fa37_7 rfl)) (qc rfl rfl (s_u (o_ld 0 sc22 rfl rfl rfl)) (qc rfl rfl (s_u (o_callq ca68 rfl (wire_Num.ok a0.Life r93 hr93))) (qc rfl rfl (s_u (o_fa fa37_5 rfl)) (qc rfl rfl (s_u (o_ld 0 sc22 rfl rfl rfl)) (qc rfl rfl (s_u (o_callq ca68 rfl (wire_Num.ok a0.Seq r95 hr95))) (qc rfl rfl (s_u (o_bin rfl rfl (bS_add r93 r95 h97))) (qc rfl rfl (s_u (o_fa fa37_9 rfl)) (qc rfl rfl (s_u (o_ldn 0 (api_Piece.c a0.Piece) ag29 rfl rfl rfl rfl)) (qc rfl rfl (s_u (o_callq ca85 rfl (say_putPiece.ok a0.Piece r99 hr99))) (qc rfl rfl (s_u (o_bin rfl rfl (bS_add (r93 ++ r95) r99 h101))) (qc rfl rfl (s_u (o_bin rfl rfl (bS_add p3 ((r93 ++ r95) ++ r99) h103))) (qc rfl rfl (s_u (o_as rfl)) qn)))))))))))))) en ?_
                                    intro _
                                    refine ex_sub (E' := [(3, vS (p3 ++ ((r93 ++ r95) ++ r99)))]) ⟨rfl, trivial⟩ ?_
                                    obtain rfl := Option.some.inj hm104
                                    exact x_sub K90 ⟨rfl, trivial⟩ (fun _ h => st_pk 1 [0] (by decide) h)
                                  · have hm92 := iff_ hp88 h91
                                    clear hp88
                                    refine c_seq ?_
                                    refine c_reg ?_
                                    refine r_u (o_bin rfl rfl (bI_eq a0.Kind 11)) ?_
                                    refine r_u (o_as rfl) ?_
                                    refine r_nil ?_
                                    refine x_seq ?_
                                    obtain ⟨p105, hp106, hm107⟩ := bs hm92
                                    refine cd_join (E' := [(3, vS p105)]) (L' := Bk b0 37 [vI a0.Kind, vW a0.View.V, vI a0.View.Primary, vW a0.View.PLife, vI a0.View.Backup, vW a0.View.BLife, vW a0.View.Epoch, vW a0.Value.V, vI a0.Value.Primary, vW a0.Value.PLife, vI a0.Value.Backup, vW a0.Value.BLife, vW a0.Value.Epoch, vW a0.Ballot, vB a0.Promise.OK, vW a0.Promise.V, vW a0.Promise.Most, vW a0.Promise.Ballot, vW a0.Promise.Value.V, vI a0.Promise.Value.Primary, vW a0.Promise.Value.PLife, vI a0.Promise.Value.Backup, vW a0.Promise.Value.BLife, vW a0.Promise.Value.Epoch, vW a0.Promise.Chosen.V, vI a0.Promise.Chosen.Primary, vW a0.Promise.Chosen.PLife, vI a0.Promise.Chosen.Backup, vW a0.Promise.Chosen.BLife, vW a0.Promise.Chosen.Epoch, vW a0.Seq, vW a0.Done, vW a0.Life, g0_.Records, vI a0.Piece.N, vI a0.Piece.Of, vS a0.Piece.Data, vS a0.Piece.Sum, vS a0.Piece.Whole, vS a0.Digest, g0_.Sums, vW a0.Session, vW a0.Num, vI a0.Op.Kind, vS a0.Op.Key, vS a0.Op.Value, vW a0.Op.TTL, vW a0.Op.Version, vI a0.Reply.E, vS a0.Reply.Value, vW a0.Reply.Version] :: F) ?_ fun K108 => ?_
                                    · obtain rfl := Option.some.inj hm107
                                      exact x_sub K90 ⟨rfl, trivial⟩ (fun _ h => st_pk 1 [0] (by decide) h)
                                    · refine c_if (b := (a0.Kind == 11)) rfl (fun h109 => ?_) fun h109 => ?_
                                      · have hm110 := ift hp106 h109
                                        clear hp106
                                        obtain ⟨r111, hr111, hm112⟩ := bs hm110
                                        clear hm110
                                        obtain ⟨r113, hr113, hm114⟩ := bs hm112
                                        clear hm112
                                        obtain ⟨h115, hm116⟩ := ig hm114
                                        clear hm114
                                        obtain ⟨r117, hr117, hm118⟩ := bs hm116
                                        clear hm116
                                        obtain ⟨h119, hm120⟩ := ig hm118
                                        clear hm118
                                        obtain ⟨h121, hm122⟩ := ig hm120
                                        clear hm120
                                        refine c_any mixed (effs := []) (V := []) ?_
                                        refine stage_ext [(0, vS p3), (1, pt b0 32), (2, vW a0.Life), (3, vS r111), (4, pt b0 30), (5, vW a0.Seq), (6, vS r113), (7, vS (r111 ++ r113)), (8, pt b0 34), (9, pt b0 34), (10, vI a0.Piece.N), (11, vW (toW a0.Piece.N)), (12, vS r117), (13, vS ((r111 ++ r113) ++ r117)), (14, vS (p3 ++ ((r111 ++ r113) ++ r117))), (15, vS (p3 ++ ((r111 ++ r113) ++ r117)))] rfl ?_
                                        refine stage rfl rfl rfl rfl [0, 0, 2, 6, 0, 16, 62, 126, 0, 256, 768, 1792, 3966, 8190, 16383, 32767] [0, 1, 2, 3, 4, 5, 6, 7, 8, 9, 10, 11, 12, 13, 14, 15] [] rfl rfl rfl (qc rfl rfl (s_u (o_mv rfl)) (qc rfl rfl (s_u (o_fa fa37_7 rfl)) (qc rfl rfl (s_u (o_ld 0 sc22 rfl rfl rfl)) (qc rfl rfl (s_u (o_callq ca68 rfl (wire_Num.ok a0.Life r111 hr111))) (qc rfl rfl (s_u (o_fa fa37_5 rfl)) (qc rfl rfl (s_u (o_ld 0 sc22 rfl rfl rfl)) (qc rfl rfl (s_u (o_callq ca68 rfl (wire_Num.ok a0.Seq r113 hr113))) (qc rfl rfl (s_u (o_bin rfl rfl (bS_add r111 r113 h115))) (qc rfl rfl (s_u (o_fa fa37_9 rfl)) (qc rfl rfl (s_u (o_fa fa29_0 rfl)) (qc rfl rfl (s_u (o_ld 0 sc3 rfl rfl rfl)) (qc rfl rfl (s_u (o_cv rfl (cIW Try.underlying3 Try.underlying22 a0.Piece.N))) (qc rfl rfl (s_u (o_callq ca68 rfl (wire_Num.ok (toW a0.Piece.N) r117 hr117))) (qc rfl rfl (s_u (o_bin rfl rfl (bS_add (r111 ++ r113) r117 h119))) (qc rfl rfl (s_u (o_bin rfl rfl (bS_add p3 ((r111 ++ r113) ++ r117) h121))) (qc rfl rfl (s_u (o_as rfl)) qn)))))))))))))))) en ?_
                                        intro _
                                        refine ex_sub (E' := [(3, vS (p3 ++ ((r111 ++ r113) ++ r117)))]) ⟨rfl, trivial⟩ ?_
                                        obtain rfl := Option.some.inj hm122
                                        exact x_sub K108 ⟨rfl, trivial⟩ (fun _ h => st_pk 1 [0] (by decide) h)
                                      · have hm110 := iff_ hp106 h109
                                        clear hp106
                                        refine c_seq ?_
                                        refine c_reg ?_
                                        refine r_u (o_bin rfl rfl (bI_eq a0.Kind 12)) ?_
                                        refine r_u (o_as rfl) ?_
                                        refine r_nil ?_
                                        refine x_seq ?_
                                        obtain ⟨p123, hp124, hm125⟩ := bs hm110
                                        refine cd_join (E' := [(3, vS p123)]) (L' := Bk b0 37 [vI a0.Kind, vW a0.View.V, vI a0.View.Primary, vW a0.View.PLife, vI a0.View.Backup, vW a0.View.BLife, vW a0.View.Epoch, vW a0.Value.V, vI a0.Value.Primary, vW a0.Value.PLife, vI a0.Value.Backup, vW a0.Value.BLife, vW a0.Value.Epoch, vW a0.Ballot, vB a0.Promise.OK, vW a0.Promise.V, vW a0.Promise.Most, vW a0.Promise.Ballot, vW a0.Promise.Value.V, vI a0.Promise.Value.Primary, vW a0.Promise.Value.PLife, vI a0.Promise.Value.Backup, vW a0.Promise.Value.BLife, vW a0.Promise.Value.Epoch, vW a0.Promise.Chosen.V, vI a0.Promise.Chosen.Primary, vW a0.Promise.Chosen.PLife, vI a0.Promise.Chosen.Backup, vW a0.Promise.Chosen.BLife, vW a0.Promise.Chosen.Epoch, vW a0.Seq, vW a0.Done, vW a0.Life, g0_.Records, vI a0.Piece.N, vI a0.Piece.Of, vS a0.Piece.Data, vS a0.Piece.Sum, vS a0.Piece.Whole, vS a0.Digest, g0_.Sums, vW a0.Session, vW a0.Num, vI a0.Op.Kind, vS a0.Op.Key, vS a0.Op.Value, vW a0.Op.TTL, vW a0.Op.Version, vI a0.Reply.E, vS a0.Reply.Value, vW a0.Reply.Version] :: F) ?_ fun K126 => ?_
                                        · obtain rfl := Option.some.inj hm125
                                          exact x_sub K108 ⟨rfl, trivial⟩ (fun _ h => st_pk 1 [0] (by decide) h)
                                        · refine c_if (b := (a0.Kind == 12)) rfl (fun h127 => ?_) fun h127 => ?_
                                          · have hm128 := ift hp124 h127
                                            clear hp124
                                            refine c_seq ?_
                                            obtain ⟨r129, hr129, hm130⟩ := bs hm128
                                            clear hm128
                                            obtain ⟨r131, hr131, hm132⟩ := bs hm130
                                            clear hm130
                                            obtain ⟨h133, hm134⟩ := ig hm132
                                            clear hm132
                                            obtain ⟨h135, hm136⟩ := ig hm134
                                            clear hm134
                                            obtain ⟨h137, hm138⟩ := ig hm136
                                            clear hm136
                                            refine c_any mixed (effs := []) (V := []) ?_
                                            refine stage_ext [(0, vS p3), (1, pt b0 32), (2, vW a0.Life), (3, vS r129), (4, pt b0 30), (5, vW a0.Seq), (6, vS r131), (7, vS (r129 ++ r131)), (8, pt b0 39), (9, vS a0.Digest), (10, vS ((r129 ++ r131) ++ a0.Digest)), (11, vS (p3 ++ ((r129 ++ r131) ++ a0.Digest))), (12, vS (p3 ++ ((r129 ++ r131) ++ a0.Digest)))] rfl ?_
                                            refine stage rfl rfl rfl rfl [0, 0, 2, 6, 0, 16, 62, 126, 0, 256, 1022, 2047, 4095] [0, 1, 2, 3, 4, 5, 6, 7, 8, 9, 10, 11, 12] [] rfl rfl rfl (qc rfl rfl (s_u (o_mv rfl)) (qc rfl rfl (s_u (o_fa fa37_7 rfl)) (qc rfl rfl (s_u (o_ld 0 sc22 rfl rfl rfl)) (qc rfl rfl (s_u (o_callq ca68 rfl (wire_Num.ok a0.Life r129 hr129))) (qc rfl rfl (s_u (o_fa fa37_5 rfl)) (qc rfl rfl (s_u (o_ld 0 sc22 rfl rfl rfl)) (qc rfl rfl (s_u (o_callq ca68 rfl (wire_Num.ok a0.Seq r131 hr131))) (qc rfl rfl (s_u (o_bin rfl rfl (bS_add r129 r131 h133))) (qc rfl rfl (s_u (o_fa fa37_10 rfl)) (qc rfl rfl (s_u (o_ld 0 sc9 rfl rfl rfl)) (qc rfl rfl (s_u (o_bin rfl rfl (bS_add (r129 ++ r131) a0.Digest h135))) (qc rfl rfl (s_u (o_bin rfl rfl (bS_add p3 ((r129 ++ r131) ++ a0.Digest) h137))) (qc rfl rfl (s_u (o_as rfl)) qn))))))))))))) en ?_
                                            intro _
                                            refine ex_sub (E' := [(1, pt b0 0), (3, vS (p3 ++ ((r129 ++ r131) ++ a0.Digest)))]) ⟨rfl, rfl, trivial⟩ ?_
                                            refine x_seq ?_
                                            refine c_seq ?_
                                            refine c_reg ?_
                                            refine r_u (o_fa fa37_11 rfl) ?_
                                            refine r_u (o_ld 0 sc30 rfl rfl rfl) ?_
                                            refine r_u (o_lenR Try.underlying30 rfl h0.2) ?_
                                            refine r_u (o_mv rfl) ?_
                                            refine r_nil ?_
                                            refine x_seq ?_
                                            obtain ⟨p139, hp140, hm141⟩ := bs hm138
                                            refine cd_join (E' := [(3, vS p139)]) (L' := Bk b0 37 [vI a0.Kind, vW a0.View.V, vI a0.View.Primary, vW a0.View.PLife, vI a0.View.Backup, vW a0.View.BLife, vW a0.View.Epoch, vW a0.Value.V, vI a0.Value.Primary, vW a0.Value.PLife, vI a0.Value.Backup, vW a0.Value.BLife, vW a0.Value.Epoch, vW a0.Ballot, vB a0.Promise.OK, vW a0.Promise.V, vW a0.Promise.Most, vW a0.Promise.Ballot, vW a0.Promise.Value.V, vI a0.Promise.Value.Primary, vW a0.Promise.Value.PLife, vI a0.Promise.Value.Backup, vW a0.Promise.Value.BLife, vW a0.Promise.Value.Epoch, vW a0.Promise.Chosen.V, vI a0.Promise.Chosen.Primary, vW a0.Promise.Chosen.PLife, vI a0.Promise.Chosen.Backup, vW a0.Promise.Chosen.BLife, vW a0.Promise.Chosen.Epoch, vW a0.Seq, vW a0.Done, vW a0.Life, g0_.Records, vI a0.Piece.N, vI a0.Piece.Of, vS a0.Piece.Data, vS a0.Piece.Sum, vS a0.Piece.Whole, vS a0.Digest, g0_.Sums, vW a0.Session, vW a0.Num, vI a0.Op.Kind, vS a0.Op.Key, vS a0.Op.Value, vW a0.Op.TTL, vW a0.Op.Version, vI a0.Reply.E, vS a0.Reply.Value, vW a0.Reply.Version] :: F) ?_ fun K142 => ?_
                                            · obtain rfl := Option.some.inj hm141
                                              exact x_sub K126 ⟨rfl, trivial⟩ (fun _ h => st_pk 1 [0] (by decide) h)
                                            · refine c_blk ?_
                                              refine cd_loop (M := fun k145 (s : Str × Int) => say_Put_l0 a0 k145 s.1 s.2 = some p139) (Ef := fun (s : Str × Int) => [(127, g0_.Sums), (128, vI (a0.Sums.length : Int)), (3, vS s.1), (129, vI s.2)]) (Lf := fun (s : Str × Int) => Bk b0 37 [vI a0.Kind, vW a0.View.V, vI a0.View.Primary, vW a0.View.PLife, vI a0.View.Backup, vW a0.View.BLife, vW a0.View.Epoch, vW a0.Value.V, vI a0.Value.Primary, vW a0.Value.PLife, vI a0.Value.Backup, vW a0.Value.BLife, vW a0.Value.Epoch, vW a0.Ballot, vB a0.Promise.OK, vW a0.Promise.V, vW a0.Promise.Most, vW a0.Promise.Ballot, vW a0.Promise.Value.V, vI a0.Promise.Value.Primary, vW a0.Promise.Value.PLife, vI a0.Promise.Value.Backup, vW a0.Promise.Value.BLife, vW a0.Promise.Value.Epoch, vW a0.Promise.Chosen.V, vI a0.Promise.Chosen.Primary, vW a0.Promise.Chosen.PLife, vI a0.Promise.Chosen.Backup, vW a0.Promise.Chosen.BLife, vW a0.Promise.Chosen.Epoch, vW a0.Seq, vW a0.Done, vW a0.Life, g0_.Records, vI a0.Piece.N, vI a0.Piece.Of, vS a0.Piece.Data, vS a0.Piece.Sum, vS a0.Piece.Whole, vS a0.Digest, g0_.Sums, vW a0.Session, vW a0.Num, vI a0.Op.Kind, vS a0.Op.Key, vS a0.Op.Value, vW a0.Op.TTL, vW a0.Op.Version, vI a0.Reply.E, vS a0.Reply.Value, vW a0.Reply.Version] :: F) (((a0.Sums.length : Int) - 0).toNat + 1) (p3 ++ ((r129 ++ r131) ++ a0.Digest), 0) hp140 ⟨rfl, rfl, rfl, rfl, trivial⟩ (fun _ h => h) (fun _ h => by cases h) fun k145 s hM147 => ?_
                                              obtain ⟨s_143, s_144⟩ := s
                                              have hm146 : say_Put_l0 a0 (k145 + 1) s_143 s_144 = some p139 := hM147
                                              rw [say_Put_l0] at hm146
                                              refine c_seq ?_
                                              refine c_reg ?_
                                              refine r_u (o_bin rfl rfl (bI_lt s_144 (a0.Sums.length : Int))) ?_
                                              refine r_nil ?_
                                              refine x_seq ?_
                                              refine c_seq ?_
                                              refine c_if (b := decide (s_144 < (a0.Sums.length : Int))) rfl (fun h148 => ?_) fun h148 => ?_
                                              · have hm149 := ift hm146 h148
                                                clear hm146
                                                refine c_skip ?_
                                                refine x_seq ?_
                                                refine c_seq ?_
                                                refine c_blk ?_
                                                refine c_seq ?_
                                                refine c_reg ?_
                                                obtain ⟨x150, hx150, hm151⟩ := bs hm149
                                                clear hm149
                                                obtain ⟨b150, o150, l150, T150, fr150, c150, hv150, hR150, he150, hi150⟩ := RoS.ne h0.2 hx150
                                                refine r_u (o_ix (sz := 1) Try.underlying30 (fun _ => by kernel_rfl) rfl rfl hv150 hi150) ?_
                                                refine r_u (o_ldR sc9 rfl hR150 (rok 0 he150 (by decide))) ?_
                                                refine r_u (o_as rfl) ?_
                                                refine r_nil ?_
                                                refine x_seq ?_
                                                refine c_reg ?_
                                                refine r_u (o_mv rfl) ?_
                                                refine r_u (o_mv rfl) ?_
                                                obtain ⟨h152, hm153⟩ := ig hm151
                                                clear hm151
                                                refine r_u (o_bin rfl rfl (bS_add s_143 x150 h152)) ?_
                                                refine r_u (o_as rfl) ?_
                                                refine r_nil ?_
                                                refine x_blk ?_
                                                refine x_seq ?_
                                                refine c_reg ?_
                                                refine r_u (o_bin rfl rfl (bI_add s_144 1)) ?_
                                                refine r_u (o_mv rfl) ?_
                                                refine r_nil ?_
                                                exact x_lp (s_143 ++ x150, i64 (s_144 + 1)) hm153 ⟨rfl, rfl, rfl, rfl, trivial⟩ (fun _ h => st_pk 1 [0] (by decide) h)
                                              · have hm149 := iff_ hm146 h148
                                                clear hm146
                                                refine c_exit (x_exit (ks' := _) rfl ?_)
                                                obtain rfl := Option.some.inj hm149
                                                exact x_sub K142 ⟨rfl, trivial⟩ (fun _ h => st_pk 1 [0] (by decide) h)
                                          · have hm128 := iff_ hp124 h127
                                            clear hp124
                                            refine c_seq ?_
                                            refine c_reg ?_
                                            refine r_u (o_bin rfl rfl (bI_eq a0.Kind 13)) ?_
                                            refine r_u (o_as rfl) ?_
                                            refine r_nil ?_
                                            refine x_seq ?_
                                            obtain ⟨p154, hp155, hm156⟩ := bs hm128
                                            refine cd_join (E' := [(3, vS p154)]) (L' := Bk b0 37 [vI a0.Kind, vW a0.View.V, vI a0.View.Primary, vW a0.View.PLife, vI a0.View.Backup, vW a0.View.BLife, vW a0.View.Epoch, vW a0.Value.V, vI a0.Value.Primary, vW a0.Value.PLife, vI a0.Value.Backup, vW a0.Value.BLife, vW a0.Value.Epoch, vW a0.Ballot, vB a0.Promise.OK, vW a0.Promise.V, vW a0.Promise.Most, vW a0.Promise.Ballot, vW a0.Promise.Value.V, vI a0.Promise.Value.Primary, vW a0.Promise.Value.PLife, vI a0.Promise.Value.Backup, vW a0.Promise.Value.BLife, vW a0.Promise.Value.Epoch, vW a0.Promise.Chosen.V, vI a0.Promise.Chosen.Primary, vW a0.Promise.Chosen.PLife, vI a0.Promise.Chosen.Backup, vW a0.Promise.Chosen.BLife, vW a0.Promise.Chosen.Epoch, vW a0.Seq, vW a0.Done, vW a0.Life, g0_.Records, vI a0.Piece.N, vI a0.Piece.Of, vS a0.Piece.Data, vS a0.Piece.Sum, vS a0.Piece.Whole, vS a0.Digest, g0_.Sums, vW a0.Session, vW a0.Num, vI a0.Op.Kind, vS a0.Op.Key, vS a0.Op.Value, vW a0.Op.TTL, vW a0.Op.Version, vI a0.Reply.E, vS a0.Reply.Value, vW a0.Reply.Version] :: F) ?_ fun K157 => ?_
                                            · obtain rfl := Option.some.inj hm156
                                              exact x_sub K126 ⟨rfl, trivial⟩ (fun _ h => st_pk 1 [0] (by decide) h)
                                            · refine c_if (b := (a0.Kind == 13)) rfl (fun h158 => ?_) fun h158 => ?_
                                              · have hm159 := ift hp155 h158
                                                clear hp155
                                                obtain ⟨r160, hr160, hm161⟩ := bs hm159
                                                clear hm159
                                                obtain ⟨r162, hr162, hm163⟩ := bs hm161
                                                clear hm161
                                                obtain ⟨h164, hm165⟩ := ig hm163
                                                clear hm163
                                                obtain ⟨r166, hr166, hm167⟩ := bs hm165
                                                clear hm165
                                                obtain ⟨h168, hm169⟩ := ig hm167
                                                clear hm167
                                                obtain ⟨h170, hm171⟩ := ig hm169
                                                clear hm169
                                                refine c_any mixed (effs := []) (V := []) ?_
                                                refine stage_ext [(0, vS p3), (1, pt b0 41), (2, vW a0.Session), (3, vS r160), (4, pt b0 42), (5, vW a0.Num), (6, vS r162), (7, vS (r160 ++ r162)), (8, pt b0 43), (9, .agg (api_Op.c a0.Op).toArray), (10, vS r166), (11, vS ((r160 ++ r162) ++ r166)), (12, vS (p3 ++ ((r160 ++ r162) ++ r166))), (13, vS (p3 ++ ((r160 ++ r162) ++ r166)))] rfl ?_
                                                refine stage rfl rfl rfl rfl [0, 0, 2, 6, 0, 16, 62, 126, 0, 256, 894, 2046, 4095, 8191] [0, 1, 2, 3, 4, 5, 6, 7, 8, 9, 10, 11, 12, 13] [] rfl rfl rfl (qc rfl rfl (s_u (o_mv rfl)) (qc rfl rfl (s_u (o_fa fa37_12 rfl)) (qc rfl rfl (s_u (o_ld 0 sc22 rfl rfl rfl)) (qc rfl rfl (s_u (o_callq ca68 rfl (wire_Num.ok a0.Session r160 hr160))) (qc rfl rfl (s_u (o_fa fa37_13 rfl)) (qc rfl rfl (s_u (o_ld 0 sc22 rfl rfl rfl)) (qc rfl rfl (s_u (o_callq ca68 rfl (wire_Num.ok a0.Num r162 hr162))) (qc rfl rfl (s_u (o_bin rfl rfl (bS_add r160 r162 h164))) (qc rfl rfl (s_u (o_fa fa37_14 rfl)) (qc rfl rfl (s_u (o_ldn 0 (api_Op.c a0.Op) ag32 rfl rfl rfl rfl)) (qc rfl rfl (s_u (o_callq ca86 rfl (op_Put.ok a0.Op r166 hr166))) (qc rfl rfl (s_u (o_bin rfl rfl (bS_add (r160 ++ r162) r166 h168))) (qc rfl rfl (s_u (o_bin rfl rfl (bS_add p3 ((r160 ++ r162) ++ r166) h170))) (qc rfl rfl (s_u (o_as rfl)) qn)))))))))))))) en ?_
                                                intro _
                                                refine ex_sub (E' := [(3, vS (p3 ++ ((r160 ++ r162) ++ r166)))]) ⟨rfl, trivial⟩ ?_
                                                obtain rfl := Option.some.inj hm171
                                                exact x_sub K157 ⟨rfl, trivial⟩ (fun _ h => st_pk 1 [0] (by decide) h)
                                              · have hm159 := iff_ hp155 h158
                                                clear hp155
                                                refine c_seq ?_
                                                refine c_reg ?_
                                                refine r_u (o_bin rfl rfl (bI_eq a0.Kind 14)) ?_
                                                refine r_u (o_as rfl) ?_
                                                refine r_nil ?_
                                                refine x_seq ?_
                                                obtain ⟨p172, hp173, hm174⟩ := bs hm159
                                                refine cd_join (E' := [(3, vS p172)]) (L' := Bk b0 37 [vI a0.Kind, vW a0.View.V, vI a0.View.Primary, vW a0.View.PLife, vI a0.View.Backup, vW a0.View.BLife, vW a0.View.Epoch, vW a0.Value.V, vI a0.Value.Primary, vW a0.Value.PLife, vI a0.Value.Backup, vW a0.Value.BLife, vW a0.Value.Epoch, vW a0.Ballot, vB a0.Promise.OK, vW a0.Promise.V, vW a0.Promise.Most, vW a0.Promise.Ballot, vW a0.Promise.Value.V, vI a0.Promise.Value.Primary, vW a0.Promise.Value.PLife, vI a0.Promise.Value.Backup, vW a0.Promise.Value.BLife, vW a0.Promise.Value.Epoch, vW a0.Promise.Chosen.V, vI a0.Promise.Chosen.Primary, vW a0.Promise.Chosen.PLife, vI a0.Promise.Chosen.Backup, vW a0.Promise.Chosen.BLife, vW a0.Promise.Chosen.Epoch, vW a0.Seq, vW a0.Done, vW a0.Life, g0_.Records, vI a0.Piece.N, vI a0.Piece.Of, vS a0.Piece.Data, vS a0.Piece.Sum, vS a0.Piece.Whole, vS a0.Digest, g0_.Sums, vW a0.Session, vW a0.Num, vI a0.Op.Kind, vS a0.Op.Key, vS a0.Op.Value, vW a0.Op.TTL, vW a0.Op.Version, vI a0.Reply.E, vS a0.Reply.Value, vW a0.Reply.Version] :: F) ?_ fun K175 => ?_
                                                · obtain rfl := Option.some.inj hm174
                                                  exact x_sub K157 ⟨rfl, trivial⟩ (fun _ h => st_pk 1 [0] (by decide) h)
                                                · refine c_if (b := (a0.Kind == 14)) rfl (fun h176 => ?_) fun h176 => ?_
                                                  · have hm177 := ift hp173 h176
                                                    clear hp173
                                                    obtain ⟨r178, hr178, hm179⟩ := bs hm177
                                                    clear hm177
                                                    obtain ⟨r180, hr180, hm181⟩ := bs hm179
                                                    clear hm179
                                                    obtain ⟨h182, hm183⟩ := ig hm181
                                                    clear hm181
                                                    obtain ⟨r184, hr184, hm185⟩ := bs hm183
                                                    clear hm183
                                                    obtain ⟨h186, hm187⟩ := ig hm185
                                                    clear hm185
                                                    obtain ⟨r188, hr188, hm189⟩ := bs hm187
                                                    clear hm187
                                                    obtain ⟨h190, hm191⟩ := ig hm189
                                                    clear hm189
                                                    obtain ⟨h192, hm193⟩ := ig hm191
                                                    clear hm191
                                                    refine c_any mixed (effs := []) (V := []) ?_
                                                    refine stage_ext [(0, vS p3), (1, pt b0 41), (2, vW a0.Session), (3, vS r178), (4, pt b0 42), (5, vW a0.Num), (6, vS r180), (7, vS (r178 ++ r180)), (8, pt b0 30), (9, vW a0.Seq), (10, vS r184), (11, vS ((r178 ++ r180) ++ r184)), (12, pt b0 48), (13, .agg (api_Reply.c a0.Reply).toArray), (14, vS r188), (15, vS (((r178 ++ r180) ++ r184) ++ r188)), (16, vS (p3 ++ (((r178 ++ r180) ++ r184) ++ r188))), (17, vS (p3 ++ (((r178 ++ r180) ++ r184) ++ r188)))] rfl ?_
                                                    refine stage rfl rfl rfl rfl [0, 0, 2, 6, 0, 16, 62, 126, 0, 256, 894, 2046, 0, 4096, 14206, 32766, 65535, 131071] [0, 1, 2, 3, 4, 5, 6, 7, 8, 9, 10, 11, 12, 13, 14, 15, 16, 17] [] rfl rfl rfl (qc rfl rfl (s_u (o_mv rfl)) (qc rfl rfl (s_u (o_fa fa37_12 rfl)) (qc rfl rfl (s_u (o_ld 0 sc22 rfl rfl rfl)) (qc rfl rfl (s_u (o_callq ca68 rfl (wire_Num.ok a0.Session r178 hr178))) (qc rfl rfl (s_u (o_fa fa37_13 rfl)) (qc rfl rfl (s_u (o_ld 0 sc22 rfl rfl rfl)) (qc rfl rfl (s_u (o_callq ca68 rfl (wire_Num.ok a0.Num r180 hr180))) (qc rfl rfl (s_u (o_bin rfl rfl (bS_add r178 r180 h182))) (qc rfl rfl (s_u (o_fa fa37_5 rfl)) (qc rfl rfl (s_u (o_ld 0 sc22 rfl rfl rfl)) (qc rfl rfl (s_u (o_callq ca68 rfl (wire_Num.ok a0.Seq r184 hr184))) (qc rfl rfl (s_u (o_bin rfl rfl (bS_add (r178 ++ r180) r184 h186))) (qc rfl rfl (s_u (o_fa fa37_15 rfl)) (qc rfl rfl (s_u (o_ldn 0 (api_Reply.c a0.Reply) ag35 rfl rfl rfl rfl)) (qc rfl rfl (s_u (o_callq ca87 rfl (op_PutReply.ok a0.Reply r188 hr188))) (qc rfl rfl (s_u (o_bin rfl rfl (bS_add ((r178 ++ r180) ++ r184) r188 h190))) (qc rfl rfl (s_u (o_bin rfl rfl (bS_add p3 (((r178 ++ r180) ++ r184) ++ r188) h192))) (qc rfl rfl (s_u (o_as rfl)) qn)))))))))))))))))) en ?_
                                                    intro _
                                                    refine ex_sub (E' := [(3, vS (p3 ++ (((r178 ++ r180) ++ r184) ++ r188)))]) ⟨rfl, trivial⟩ ?_
                                                    obtain rfl := Option.some.inj hm193
                                                    exact x_sub K175 ⟨rfl, trivial⟩ (fun _ h => st_pk 1 [0] (by decide) h)
                                                  · have hm177 := iff_ hp173 h176
                                                    clear hp173
                                                    refine c_skip ?_
                                                    obtain rfl := Option.some.inj hm177
                                                    exact x_sub K175 ⟨rfl, trivial⟩ (fun _ h => st_pk 1 [0] (by decide) h)
              · refine c_if (b := (a0.Kind == 4)) rfl (fun h194 => ?_) fun h194 => ?_
                · have hm195 := ift hp36 h194
                  clear hp36
                  refine c_skip ?_
                  obtain rfl := Option.some.inj hm195
                  exact x_sub K38 ⟨rfl, rfl, rfl, rfl, trivial⟩ (fun _ h => st_pk 1 [0] (by decide) h)
                · have hm195 := iff_ hp36 h194
                  clear hp36
                  refine c_reg ?_
                  refine r_u (o_bin rfl rfl (bI_eq a0.Kind 6)) ?_
                  refine r_u (o_as rfl) ?_
                  refine r_nil ?_
                  obtain rfl := Option.some.inj hm195
                  exact x_sub K38 ⟨rfl, rfl, rfl, rfl, trivial⟩ (fun _ h => st_pk 1 [0] (by decide) h)
  · refine c_if (b := ((a0.Kind != 1) && (a0.Kind != 13))) rfl (fun h196 => ?_) fun h196 => ?_
    · have hm197 := ift hp4 h196
      clear hp4
      refine c_reg ?_
      refine r_u (o_mv rfl) ?_
      refine r_u (o_fa fa37_1 rfl) ?_
      refine r_u (o_ldn 0 (api_View.c a0.View) ag24 rfl rfl rfl rfl) ?_
      obtain ⟨r198, hr198, hm199⟩ := bs hm197
      clear hm197
      refine r_u (o_callq ca81 rfl (cell_Put.ok a0.View r198 hr198)) ?_
      obtain ⟨h200, hm201⟩ := ig hm199
      clear hm199
      refine r_u (o_bin rfl rfl (bS_add r1 r198 h200)) ?_
      refine r_u (o_as rfl) ?_
      refine r_nil ?_
      obtain rfl := Option.some.inj hm201
      exact x_sub K6 ⟨rfl, rfl, trivial⟩ (fun _ h => st_pk 1 [0] (by decide) h)
    · have hm197 := iff_ hp4 h196
      clear hp4
      refine c_skip ?_
      obtain rfl := Option.some.inj hm197
      exact x_sub K6 ⟨rfl, rfl, trivial⟩ (fun _ h => st_pk 1 [0] (by decide) h)

def wire_Check_l1  : Nat → UInt32 → Int → Option (UInt32)
  | 0, _, _ => none
  | k26 + 1, r_24, s_25 => if decide (s_25 < 8) then Option.bind (if ((r_24 &&& 1) == 1) then some ((shDr r_24 ((1 : UInt64).toNat : Int)) ^^^ 3945912366) else some (shDr r_24 ((1 : UInt64).toNat : Int))) fun p31 => wire_Check_l1 k26 p31 (i64 (s_25 + 1)) else some r_24
def wire_Check_l0 (a0 : Str) : Nat → UInt32 → Int → Option (UInt32)
  | 0, _, _ => none
  | k9 + 1, r_7, s_8 => if decide (s_8 < (a0.length : Int)) then Option.bind ((gi a0 s_8).bind fun x18 => Option.bind (wire_Check_l1 9 (r_7 ^^^ x18.toUInt32) 0) fun p20 => some p20) fun p14 => wire_Check_l0 a0 k9 p14 (i64 (s_8 + 1)) else some r_7
def wire_Check (a0 : Str) : Option UInt32 :=
  if a0.length ≤ maxLen then Option.bind (wire_Check_l0 a0 (((a0.length : Int) - 0).toNat + 1) 4294967295 0) fun p3 => some (~~~p3) else none
theorem wire_Check.ok {G R F} (a0 : Str) (r : UInt32) (hm : wire_Check a0 = some r) : CO Try.prog 90 [vS a0] G R (F)
    (Ret fun u R' L' => u = vD r ∧ R' = R ∧ L' = F) := by
  unfold wire_Check at hm
  refine co_ofN (N := 32) Try.func90 rfl rfl ?_
  refine c_seq ?_
  refine c_reg ?_
  refine r_u (o_as rfl) ?_
  refine r_nil ?_
  refine x_seq ?_
  refine c_seq ?_
  refine c_reg ?_
  refine r_u (o_as rfl) ?_
  refine r_nil ?_
  refine x_seq ?_
  refine c_seq ?_
  refine c_seq ?_
  refine c_reg ?_
  refine r_u (o_mv rfl) ?_
  obtain ⟨h0, hm2⟩ := ig hm
  clear hm
  refine r_sw (s_w (o_sb Try.underlying9 Try.underlying45 Try.underlying5 rfl h0)) ?_
  rintro v1 R _ _ ⟨rfl, rfl⟩
  refine r_u (o_lenO 0 Try.underlying45 rfl rfl) ?_
  refine r_u (o_mv rfl) ?_
  refine r_nil ?_
  refine x_seq ?_
  obtain ⟨p3, hp4, hm5⟩ := bs hm2
  refine cd_join (E' := [(3, vD p3)]) (L' := OwS false 5 1 eY v1 a0 :: F) ?_ fun K6 => ?_
  · refine x_seq ?_
    refine c_seq ?_
    refine c_reg ?_
    refine r_u (o_mv rfl) ?_
    refine r_u (o_un rfl (uD_xor p3)) ?_
    refine r_u (o_as rfl) ?_
    refine r_nil ?_
    refine x_seq ?_
    refine c_ret ?_
    obtain rfl := Option.some.inj hm5
    refine ex_st (fun _ h => st_pk 1 [] (by decide) h) ?_
    exact x_r1 rfl (rv_t rfl) (Le.refl _) ⟨_, rfl, rfl, rfl, rfl⟩
  · refine c_blk ?_
    refine cd_loop (M := fun k9 (s : UInt32 × Int) => wire_Check_l0 a0 k9 s.1 s.2 = some p3) (Ef := fun (s : UInt32 × Int) => [(8, v1), (9, vI (a0.length : Int)), (3, vD s.1), (10, vI s.2)]) (Lf := fun (s : UInt32 × Int) => OwS false 5 1 eY v1 a0 :: F) (((a0.length : Int) - 0).toNat + 1) (4294967295, 0) hp4 ⟨rfl, rfl, rfl, rfl, trivial⟩ (fun _ h => h) (fun _ h => by cases h) fun k9 s hM11 => ?_
    obtain ⟨r_7, s_8⟩ := s
    have hm10 : wire_Check_l0 a0 (k9 + 1) r_7 s_8 = some p3 := hM11
    rw [wire_Check_l0] at hm10
    refine c_seq ?_
    refine c_reg ?_
    refine r_u (o_bin rfl rfl (bI_lt s_8 (a0.length : Int))) ?_
    refine r_nil ?_
    refine x_seq ?_
    refine c_seq ?_
    refine c_if (b := decide (s_8 < (a0.length : Int))) rfl (fun h12 => ?_) fun h12 => ?_
    · have hm13 := ift hm10 h12
      clear hm10
      refine c_skip ?_
      refine x_seq ?_
      refine c_seq ?_
      obtain ⟨p14, hp15, hm16⟩ := bs hm13
      refine cd_join (E' := [(8, v1), (9, vI (a0.length : Int)), (10, vI s_8), (3, vD p14)]) (L' := OwS false 5 1 eY v1 a0 :: F) ?_ fun K17 => ?_
      · refine x_seq ?_
        refine c_reg ?_
        refine r_u (o_bin rfl rfl (bI_add s_8 1)) ?_
        refine r_u (o_mv rfl) ?_
        refine r_nil ?_
        exact x_lp (p14, i64 (s_8 + 1)) hm16 ⟨rfl, rfl, rfl, rfl, trivial⟩ (fun _ h => st_pk 1 [0] (by decide) h)
      · refine c_blk ?_
        refine c_seq ?_
        refine c_reg ?_
        obtain ⟨x18, hx18, hm19⟩ := bs hp15
        clear hp15
        refine r_u (o_ixO 0 Try.underlying45 (fun _ => by kernel_rfl) rfl rfl rfl hx18) ?_
        refine r_u (o_ldO0 0 sc5 rfl rfl hx18 rfl rfl) ?_
        refine r_u (o_as rfl) ?_
        refine r_nil ?_
        refine x_seq ?_
        refine c_seq ?_
        refine c_reg ?_
        refine r_u (o_mv rfl) ?_
        refine r_u (o_mv rfl) ?_
        refine r_u (o_cv rfl (cYD Try.underlying5 Try.underlying91 x18)) ?_
        refine r_u (o_bin rfl rfl (bD_xor r_7 x18.toUInt32)) ?_
        refine r_u (o_as rfl) ?_
        refine r_nil ?_
        refine x_seq ?_
        refine c_seq ?_
        refine c_reg ?_
        refine r_u (o_mv rfl) ?_
        refine r_nil ?_
        refine x_seq ?_
        obtain ⟨p20, hp21, hm22⟩ := bs hm19
        refine cd_join (E' := [(8, v1), (9, vI (a0.length : Int)), (10, vI s_8), (3, vD p20)]) (L' := OwS false 5 1 eY v1 a0 :: F) ?_ fun K23 => ?_
        · refine x_blk ?_
          obtain rfl := Option.some.inj hm22
          exact x_sub K17 ⟨rfl, rfl, rfl, rfl, trivial⟩ (fun _ h => st_pk 1 [0] (by decide) h)
        · refine c_blk ?_
          refine cd_loop (M := fun k26 (s : UInt32 × Int) => wire_Check_l1 k26 s.1 s.2 = some p20) (Ef := fun (s : UInt32 × Int) => [(8, v1), (9, vI (a0.length : Int)), (10, vI s_8), (3, vD s.1), (18, vI s.2)]) (Lf := fun (s : UInt32 × Int) => OwS false 5 1 eY v1 a0 :: F) 9 (r_7 ^^^ x18.toUInt32, 0) hp21 ⟨rfl, rfl, rfl, rfl, rfl, trivial⟩ (fun _ h => h) (fun _ h => by cases h) fun k26 s hM28 => ?_
          obtain ⟨r_24, s_25⟩ := s
          have hm27 : wire_Check_l1 (k26 + 1) r_24 s_25 = some p20 := hM28
          rw [wire_Check_l1] at hm27
          refine c_seq ?_
          refine c_reg ?_
          refine r_u (o_bin rfl rfl (bI_lt s_25 8)) ?_
          refine r_nil ?_
          refine x_seq ?_
          refine c_seq ?_
          refine c_if (b := decide (s_25 < 8)) rfl (fun h29 => ?_) fun h29 => ?_
          · have hm30 := ift hm27 h29
            clear hm27
            refine c_skip ?_
            refine x_seq ?_
            refine c_seq ?_
            refine c_blk ?_
            refine c_seq ?_
            refine c_reg ?_
            refine r_u (o_mv rfl) ?_
            refine r_u (o_bin rfl rfl (bD_and r_24 1)) ?_
            refine r_u (o_as rfl) ?_
            refine r_nil ?_
            refine x_seq ?_
            refine c_seq ?_
            refine c_reg ?_
            refine r_u (o_mv rfl) ?_
            refine r_u (o_bin rfl rfl (bDW_shr r_24 1)) ?_
            refine r_u (o_as rfl) ?_
            refine r_nil ?_
            refine x_seq ?_
            refine c_seq ?_
            refine c_reg ?_
            refine r_u (o_mv rfl) ?_
            refine r_u (o_bin rfl rfl (bD_eq (r_24 &&& 1) 1)) ?_
            refine r_nil ?_
            refine x_seq ?_
            obtain ⟨p31, hp32, hm33⟩ := bs hm30
            refine cd_join (E' := [(8, v1), (9, vI (a0.length : Int)), (10, vI s_8), (18, vI s_25), (3, vD p31)]) (L' := OwS false 5 1 eY v1 a0 :: F) ?_ fun K34 => ?_
            · refine x_blk ?_
              refine x_seq ?_
              refine c_reg ?_
              refine r_u (o_bin rfl rfl (bI_add s_25 1)) ?_
              refine r_u (o_mv rfl) ?_
              refine r_nil ?_
              exact x_lp (p31, i64 (s_25 + 1)) hm33 ⟨rfl, rfl, rfl, rfl, rfl, trivial⟩ (fun _ h => st_pk 1 [0] (by decide) h)
            · refine c_if (b := ((r_24 &&& 1) == 1)) rfl (fun h35 => ?_) fun h35 => ?_
              · have hm36 := ift hp32 h35
                clear hp32
                refine c_reg ?_
                refine r_u (o_mv rfl) ?_
                refine r_u (o_bin rfl rfl (bD_xor (shDr r_24 ((1 : UInt64).toNat : Int)) 3945912366)) ?_
                refine r_u (o_as rfl) ?_
                refine r_nil ?_
                obtain rfl := Option.some.inj hm36
                exact x_sub K34 ⟨rfl, rfl, rfl, rfl, rfl, trivial⟩ (fun _ h => st_pk 1 [0] (by decide) h)
              · have hm36 := iff_ hp32 h35
                clear hp32
                refine c_skip ?_
                obtain rfl := Option.some.inj hm36
                exact x_sub K34 ⟨rfl, rfl, rfl, rfl, rfl, trivial⟩ (fun _ h => st_pk 1 [0] (by decide) h)
          · have hm30 := iff_ hm27 h29
            clear hm27
            refine c_exit (x_exit (ks' := _) rfl ?_)
            obtain rfl := Option.some.inj hm30
            exact x_sub K23 ⟨rfl, rfl, rfl, rfl, trivial⟩ (fun _ h => st_pk 1 [0] (by decide) h)
    · have hm13 := iff_ hm10 h12
      clear hm10
      refine c_exit (x_exit (ks' := _) rfl ?_)
      obtain rfl := Option.some.inj hm13
      exact x_sub K6 ⟨rfl, trivial⟩ (fun _ h => st_pk 1 [0] (by decide) h)

def wire_sum (a0 : UInt32) : Str :=
  [a0.toUInt8, (shDr a0 ((8 : UInt64).toNat : Int)).toUInt8, (shDr a0 ((16 : UInt64).toNat : Int)).toUInt8, (shDr a0 ((24 : UInt64).toNat : Int)).toUInt8]
theorem wire_sum.ok {G R F} (a0 : UInt32) (r : Str) (hm : wire_sum a0 = r) : CO Try.prog 89 [vD a0] G R (F)
    (Ret fun u R' L' => u = vS r ∧ R' = R ∧ L' = F) := by
  unfold wire_sum at hm
  refine co_ofN (N := 16) Try.func89 rfl rfl ?_
  refine c_seq ?_
  refine c_reg ?_
  refine r_u (o_as rfl) ?_
  refine r_nil ?_
  refine x_seq ?_
  refine c_seq ?_
  refine c_reg ?_
  refine r_u (o_mv rfl) ?_
  refine r_u (o_cv rfl (cDY Try.underlying91 Try.underlying5 a0)) ?_
  refine r_u (o_mv rfl) ?_
  refine r_u (o_bin rfl rfl (bDW_shr a0 8)) ?_
  refine r_u (o_cv rfl (cDY Try.underlying91 Try.underlying5 (shDr a0 ((8 : UInt64).toNat : Int)))) ?_
  refine r_u (o_mv rfl) ?_
  refine r_u (o_bin rfl rfl (bDW_shr a0 16)) ?_
  refine r_u (o_cv rfl (cDY Try.underlying91 Try.underlying5 (shDr a0 ((16 : UInt64).toNat : Int)))) ?_
  refine r_u (o_mv rfl) ?_
  refine r_u (o_bin rfl rfl (bDW_shr a0 24)) ?_
  refine r_u (o_cv rfl (cDY Try.underlying91 Try.underlying5 (shDr a0 ((24 : UInt64).toNat : Int)))) ?_
  refine r_sw (s_w (o_bsl (en := eY) (sz := 1) (e := 5) (cs := [vY a0.toUInt8, vY ((shDr a0 ((8 : UInt64).toNat : Int)).toUInt8), vY ((shDr a0 ((16 : UInt64).toNat : Int)).toUInt8), vY ((shDr a0 ((24 : UInt64).toNat : Int)).toUInt8)]) (r := [a0.toUInt8, (shDr a0 ((8 : UInt64).toNat : Int)).toUInt8, (shDr a0 ((16 : UInt64).toNat : Int)).toUInt8, (shDr a0 ((24 : UInt64).toNat : Int)).toUInt8]) rfl (fun _ => by kernel_rfl) rfl (by decide) rfl (fun _ => rfl))) ?_
  rintro v0 R _ _ ⟨rfl, rfl⟩
  refine r_u (o_bs 0 Try.underlying45 Try.underlying5 Try.underlying9 rfl rfl) ?_
  refine r_u (o_as rfl) ?_
  refine r_nil ?_
  refine x_seq ?_
  refine c_ret ?_
  subst hm
  refine ex_st (fun _ h => st_pk 1 [] (by decide) h) ?_
  exact x_r1 rfl (rv_t rfl) (Le.refl _) ⟨_, rfl, rfl, rfl, rfl⟩

def wire_Frame (a0 : Str) : Option (Str × Int) :=
  if decide (65536 < (a0.length : Int)) then some ([], 3) else (wire_Text a0).bind fun r3 => if [49].length + r3.length ≤ maxS then (wire_Check ([49] ++ r3)).bind fun r7 => if ([49] ++ r3).length + (wire_sum r7).length ≤ maxS then some (([49] ++ r3) ++ (wire_sum r7), 0) else none else none
theorem wire_Frame.ok {G R F} (a0 : Str) (r : Str × Int) (hm : wire_Frame a0 = some r) : CO Try.prog 40 [vS a0] G R (F)
    (Ret fun u R' L' => u = .tuple #[vS r.1, vI r.2] ∧ R' = R ∧ L' = F) := by
  unfold wire_Frame at hm
  refine co_ofN (N := 18) Try.func40 rfl rfl ?_
  refine c_seq ?_
  refine c_reg ?_
  refine r_u (o_as rfl) ?_
  refine r_u (o_as rfl) ?_
  refine r_nil ?_
  refine x_seq ?_
  refine c_seq ?_
  refine c_seq ?_
  refine c_reg ?_
  refine r_u (o_mv rfl) ?_
  refine r_u (o_lenS Try.underlying9 rfl) ?_
  refine r_u (o_bin rfl rfl (bI_gt (a0.length : Int) 65536)) ?_
  refine r_nil ?_
  refine x_seq ?_
  refine c_if (b := decide (65536 < (a0.length : Int))) rfl (fun h0 => ?_) fun h0 => ?_
  · have hm1 := ift hm h0
    clear hm
    refine c_seq ?_
    refine c_reg ?_
    refine r_u (o_as rfl) ?_
    refine r_u (o_as rfl) ?_
    refine r_nil ?_
    refine x_seq ?_
    refine c_ret ?_
    obtain rfl := Option.some.inj hm1
    exact x_r2 rfl (rv_t rfl) (rv_t rfl) (Le.refl _) ⟨_, rfl, rfl, rfl, rfl⟩
  · have hm1 := iff_ hm h0
    clear hm
    refine c_skip ?_
    refine x_seq ?_
    refine c_seq ?_
    obtain ⟨r3, hr3, hm4⟩ := bs hm1
    clear hm1
    obtain ⟨h5, hm6⟩ := ig hm4
    clear hm4
    refine c_any mixed (effs := [0]) (V := []) ?_
    refine stage_ext [(2, vS a0), (3, vS r3)] rfl ?_
    refine stage rfl rfl rfl rfl [0, 1, 0, 4, 15, 31] [2, 3] [0] rfl rfl rfl (qc rfl rfl (s_u (o_mv rfl)) (qc rfl rfl (s_u (o_callq ca88 rfl (wire_Text.ok a0 r3 hr3))) qn)) ?_ (fun h => absurd h (by decide))
    refine ec (eo_w rfl (s_w (o_bsl (en := eY) (sz := 1) (e := 5) (cs := [vY 49]) (r := [49]) rfl (fun _ => by kernel_rfl) rfl (by decide) rfl (fun _ => rfl))) ?_) en
    rintro v2 R _ _ ⟨rfl, rfl⟩
    refine stage_ext [(1, vS [49]), (4, vS ([49] ++ r3)), (5, vS ([49] ++ r3))] rfl ?_
    refine stage rfl rfl rfl rfl [0, 1, 0, 4, 15, 31] [1, 2, 3, 4, 5] [] rfl rfl rfl (qc rfl rfl (s_u (o_bs 0 Try.underlying45 Try.underlying5 Try.underlying9 rfl rfl)) (qc rfl rfl (s_u (o_mv rfl)) (qc rfl rfl (s_u (o_callq ca88 rfl (wire_Text.ok a0 r3 hr3))) (qc rfl rfl (s_u (o_bin rfl rfl (bS_add [49] r3 h5))) (qc rfl rfl (s_u (o_as rfl)) qn))))) en ?_
    intro _
    refine ex_sub (E' := [(4, vS ([49] ++ r3))]) ⟨rfl, trivial⟩ ?_
    refine x_seq ?_
    refine c_seq ?_
    refine c_reg ?_
    refine r_u (o_mv rfl) ?_
    refine r_u (o_mv rfl) ?_
    obtain ⟨r7, hr7, hm8⟩ := bs hm6
    clear hm6
    refine r_u (o_callq ca90 rfl (wire_Check.ok ([49] ++ r3) r7 hr7)) ?_
    refine r_u (o_callq ca89 rfl (wire_sum.ok r7 _ rfl)) ?_
    obtain ⟨h9, hm10⟩ := ig hm8
    clear hm8
    refine r_u (o_bin rfl rfl (bS_add ([49] ++ r3) (wire_sum r7) h9)) ?_
    refine r_u (o_as rfl) ?_
    refine r_u (o_as rfl) ?_
    refine r_nil ?_
    refine x_seq ?_
    refine c_ret ?_
    obtain rfl := Option.some.inj hm10
    refine ex_st (fun _ h => st_pk 1 [] (by decide) h) ?_
    exact x_r2 rfl (rv_t rfl) (rv_t rfl) (Le.refl _) ⟨_, rfl, rfl, rfl, rfl⟩

def say_Seal (a0 : api_Say) : Option (Str × Int) :=
  (say_Put a0).bind fun r1 => (wire_Frame r1).bind fun r3 => some (r3.1, r3.2)
theorem say_Seal.ok {G R F} (a0 : api_Say) (g0_ : api_Say.G) (h0 : api_Say.ro R a0 g0_) (r : Str × Int) (hm : say_Seal a0 = some r) : CO Try.prog 9 [.agg [vI a0.Kind, vW a0.View.V, vI a0.View.Primary, vW a0.View.PLife, vI a0.View.Backup, vW a0.View.BLife, vW a0.View.Epoch, vW a0.Value.V, vI a0.Value.Primary, vW a0.Value.PLife, vI a0.Value.Backup, vW a0.Value.BLife, vW a0.Value.Epoch, vW a0.Ballot, vB a0.Promise.OK, vW a0.Promise.V, vW a0.Promise.Most, vW a0.Promise.Ballot, vW a0.Promise.Value.V, vI a0.Promise.Value.Primary, vW a0.Promise.Value.PLife, vI a0.Promise.Value.Backup, vW a0.Promise.Value.BLife, vW a0.Promise.Value.Epoch, vW a0.Promise.Chosen.V, vI a0.Promise.Chosen.Primary, vW a0.Promise.Chosen.PLife, vI a0.Promise.Chosen.Backup, vW a0.Promise.Chosen.BLife, vW a0.Promise.Chosen.Epoch, vW a0.Seq, vW a0.Done, vW a0.Life, g0_.Records, vI a0.Piece.N, vI a0.Piece.Of, vS a0.Piece.Data, vS a0.Piece.Sum, vS a0.Piece.Whole, vS a0.Digest, g0_.Sums, vW a0.Session, vW a0.Num, vI a0.Op.Kind, vS a0.Op.Key, vS a0.Op.Value, vW a0.Op.TTL, vW a0.Op.Version, vI a0.Reply.E, vS a0.Reply.Value, vW a0.Reply.Version].toArray] G R (F)
    (Ret fun u R' L' => u = .tuple #[vS r.1, vI r.2] ∧ R' = R ∧ L' = F) := by
  unfold say_Seal at hm
  refine co_ofN (N := 9) Try.func9 rfl rfl ?_
  refine c_seq ?_
  refine c_reg ?_
  refine r_new (o_bx [vI a0.Kind, vW a0.View.V, vI a0.View.Primary, vW a0.View.PLife, vI a0.View.Backup, vW a0.View.BLife, vW a0.View.Epoch, vW a0.Value.V, vI a0.Value.Primary, vW a0.Value.PLife, vI a0.Value.Backup, vW a0.Value.BLife, vW a0.Value.Epoch, vW a0.Ballot, vB a0.Promise.OK, vW a0.Promise.V, vW a0.Promise.Most, vW a0.Promise.Ballot, vW a0.Promise.Value.V, vI a0.Promise.Value.Primary, vW a0.Promise.Value.PLife, vI a0.Promise.Value.Backup, vW a0.Promise.Value.BLife, vW a0.Promise.Value.Epoch, vW a0.Promise.Chosen.V, vI a0.Promise.Chosen.Primary, vW a0.Promise.Chosen.PLife, vI a0.Promise.Chosen.Backup, vW a0.Promise.Chosen.BLife, vW a0.Promise.Chosen.Epoch, vW a0.Seq, vW a0.Done, vW a0.Life, g0_.Records, vI a0.Piece.N, vI a0.Piece.Of, vS a0.Piece.Data, vS a0.Piece.Sum, vS a0.Piece.Whole, vS a0.Digest, g0_.Sums, vW a0.Session, vW a0.Num, vI a0.Op.Kind, vS a0.Op.Key, vS a0.Op.Value, vW a0.Op.TTL, vW a0.Op.Version, vI a0.Reply.E, vS a0.Reply.Value, vW a0.Reply.Version] rfl rfl) fun b0 => ?_
  refine r_u (o_as rfl) ?_
  refine r_u (o_as rfl) ?_
  refine r_nil ?_
  refine x_seq ?_
  refine c_seq ?_
  refine c_reg ?_
  refine r_u (o_ldn 0 [vI a0.Kind, vW a0.View.V, vI a0.View.Primary, vW a0.View.PLife, vI a0.View.Backup, vW a0.View.BLife, vW a0.View.Epoch, vW a0.Value.V, vI a0.Value.Primary, vW a0.Value.PLife, vI a0.Value.Backup, vW a0.Value.BLife, vW a0.Value.Epoch, vW a0.Ballot, vB a0.Promise.OK, vW a0.Promise.V, vW a0.Promise.Most, vW a0.Promise.Ballot, vW a0.Promise.Value.V, vI a0.Promise.Value.Primary, vW a0.Promise.Value.PLife, vI a0.Promise.Value.Backup, vW a0.Promise.Value.BLife, vW a0.Promise.Value.Epoch, vW a0.Promise.Chosen.V, vI a0.Promise.Chosen.Primary, vW a0.Promise.Chosen.PLife, vI a0.Promise.Chosen.Backup, vW a0.Promise.Chosen.BLife, vW a0.Promise.Chosen.Epoch, vW a0.Seq, vW a0.Done, vW a0.Life, g0_.Records, vI a0.Piece.N, vI a0.Piece.Of, vS a0.Piece.Data, vS a0.Piece.Sum, vS a0.Piece.Whole, vS a0.Digest, g0_.Sums, vW a0.Session, vW a0.Num, vI a0.Op.Kind, vS a0.Op.Key, vS a0.Op.Value, vW a0.Op.TTL, vW a0.Op.Version, vI a0.Reply.E, vS a0.Reply.Value, vW a0.Reply.Version] ag37 rfl rfl rfl rfl) ?_
  obtain ⟨r1, hr1, hm2⟩ := bs hm
  clear hm
  refine r_u (o_callq ca39 rfl (say_Put.ok a0 g0_ ⟨h0.1, h0.2⟩ r1 hr1)) ?_
  obtain ⟨r3, hr3, hm4⟩ := bs hm2
  clear hm2
  refine r_u (o_callq ca40 rfl (wire_Frame.ok r1 r3 hr3)) ?_
  refine r_u (o_ext rfl rfl) ?_
  refine r_u (o_ext rfl rfl) ?_
  refine r_u (o_as rfl) ?_
  refine r_u (o_as rfl) ?_
  refine r_nil ?_
  refine x_seq ?_
  refine c_ret ?_
  obtain rfl := Option.some.inj hm4
  refine ex_st (fun _ h => st_pk 1 [] (by decide) h) ?_
  exact x_r2 rfl (rv_t rfl) (rv_t rfl) (Le.refl _) ⟨_, rfl, rfl, rfl, rfl⟩

def wire_Reader_Left (a0 : wire_Reader) : Int :=
  (a0.s.length : Int)
theorem wire_Reader_Left.ok {G R F} (b0_ : Nat) (a0 : wire_Reader) (r : Int) (hm : wire_Reader_Left a0 = r) : CO Try.prog 93 [pt b0_ 0] G R (Bk b0_ 114 (wire_Reader.c a0) :: F)
    (Ret fun u R' L' => u = vI r ∧ R' = R ∧ L' = Bk b0_ 114 (wire_Reader.c a0) :: F) := by
  unfold wire_Reader_Left at hm
  refine co_ofN (N := 8) Try.func93 rfl rfl ?_
  refine c_seq ?_
  refine c_reg ?_
  refine r_u (o_as rfl) ?_
  refine r_nil ?_
  refine x_seq ?_
  refine c_seq ?_
  refine c_reg ?_
  refine r_u (o_mv rfl) ?_
  refine r_u (o_nc rfl) ?_
  refine r_u (o_fa fa114_0 rfl) ?_
  refine r_u (o_ld 0 sc9 rfl rfl rfl) ?_
  refine r_u (o_lenS Try.underlying9 rfl) ?_
  refine r_u (o_as rfl) ?_
  refine r_nil ?_
  refine x_seq ?_
  refine c_ret ?_
  subst hm
  exact x_r1 rfl (rv_t rfl) (Le.refl _) ⟨_, rfl, rfl, rfl, rfl⟩

end Go.Proofs.Ythngfieikhillaa
