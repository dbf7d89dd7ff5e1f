import Derived.Test.YthngfieikhillaaW5
import Derived.Test.YthngfieikhillaaFacts
import Derived.Test.YthngfieikhillaaHwU
set_option linter.unusedVariables false
set_option linter.unusedSectionVars false
set_option linter.unusedSimpArgs false
set_option maxRecDepth 100000
set_option maxHeartbeats 8000000
namespace Go.Proofs.Ythngfieikhillaa
open Go Go.Proofs.Ythngfieikhillaa.Hw
def hawthornlaw18_SaySeals (a0 : Str) (a1 : Int) (a2 : UInt8) : Option Bool :=
  Option.bind (if decide (2500 < (a0.length : Int)) then (sl a0 0 2500).bind fun s93 => some s93 else some a0) fun p0 => (say_Get p0).bind fun r4 => (hawthornlaw18_awake).bind fun r10 => if (!r10 || (r4.2 != 0)) then some r10 else (say_Seal r4.1).bind fun r22 => (say_Open r22.1).bind fun r24 => Option.bind (if ((r22.2 != 0) || (r24.2 != 0)) then some true else (hawthornref18_Same r4.1 r24.1).bind fun r63 => Option.bind (if r63 then (hawthornref03_Frame p0).bind fun r81 => some (r22.1 != r81) else some true) fun p65 => some p65) fun p30 => if p30 then some false else if (a2 == 0) then some true else if r22.1.length ≤ maxLen then if (r22.1.length : Int) ≠ 0 then (gi r22.1 ((i64 ((a1.tmod (r22.1.length : Int)) + (r22.1.length : Int))).tmod (r22.1.length : Int))).bind fun x45 => (say_Open (ls r22.1 ((i64 ((a1.tmod (r22.1.length : Int)) + (r22.1.length : Int))).tmod (r22.1.length : Int)) (x45 ^^^ a2))).bind fun r47 => some (r47.2 != 0) else none else none
theorem hawthornlaw18_SaySeals.ok {G R F} (a0 : Str) (a1 : Int) (a2 : UInt8) (r : Bool) (hm : hawthornlaw18_SaySeals a0 a1 a2 = some r) : CO Try.prog 3 [vS a0, vI a1, vY a2] G R (F)
    (Ret fun u R' L' => u = vB r ∧ True ∧ L' = F) := by
  unfold hawthornlaw18_SaySeals at hm
  refine co_ofN (N := 89) Try.func3 rfl rfl ?_
  refine c_seq ?_
  refine c_reg ?_
  refine r_u (o_as rfl) ?_
  refine r_nil ?_
  refine x_seq ?_
  refine c_seq ?_
  refine c_seq ?_
  refine c_reg ?_
  refine r_u (o_mv rfl) ?_
  refine r_u (o_lenS Try.underlying9 rfl) ?_
  refine r_u (o_bin rfl rfl (bI_gt (a0.length : Int) 2500)) ?_
  refine r_nil ?_
  refine x_seq ?_
  obtain ⟨p0, hp1, hm2⟩ := bs hm
  refine cd_join (E' := [(1, vI a1), (2, vY a2), (0, vS p0)]) (L' := F) ?_ fun K3 => ?_
  · refine x_seq ?_
    refine c_seq ?_
    refine c_reg ?_
    refine r_u (o_mv rfl) ?_
    obtain ⟨r4, hr4, hm8⟩ := bs hm2
    clear hm2
    refine r_sw (s_w (o_call ca7 rfl (say_Get.ok p0 r4 hr4))) ?_
    rintro _ R _ _ ⟨v5, rfl, rfl, rfl⟩
    refine r_u (o_mv rfl) ?_
    refine r_u (o_ext rfl rfl) ?_
    refine r_u (o_ext rfl rfl) ?_
    refine r_new (o_al ze37) fun b9 => ?_
    refine r_u0 (ou_if (one_o 1 rfl) fun ho0 => ou_if (one_o 2 rfl) fun ho1 => o_stn ag37 rfl rfl rfl (al_c rfl (al_c rfl (al_c rfl (al_c rfl (al_c rfl (al_c rfl (al_c rfl (al_c rfl (al_c rfl (al_c rfl (al_c rfl (al_c rfl (al_c rfl (al_c rfl (al_c rfl (al_c rfl (al_c rfl (al_c rfl (al_c rfl (al_c rfl (al_c rfl (al_c rfl (al_c rfl (al_c rfl (al_c rfl (al_c rfl (al_c rfl (al_c rfl (al_c rfl (al_c rfl (al_c rfl (al_c rfl (al_c rfl (al_c ho0 (al_c rfl (al_c rfl (al_c rfl (al_c rfl (al_c rfl (al_c rfl (al_c ho1 (al_c rfl (al_c rfl (al_c rfl (al_c rfl (al_c rfl (al_c rfl (al_c rfl (al_c rfl (al_c rfl (al_c rfl al_n))))))))))))))))))))))))))))))))))))))))))))))))))) rfl rfl rfl) ?_
    refine r_u (o_as rfl) ?_
    refine r_nil ?_
    refine x_seq ?_
    refine c_seq ?_
    refine c_seq ?_
    refine c_reg ?_
    obtain ⟨r10, hr10, hm11⟩ := bs hm8
    clear hm8
    refine r_u (o_callq ca8 rfl (hawthornlaw18_awake.ok r10 hr10)) ?_
    refine r_u (o_not rfl) ?_
    refine r_u (o_mv rfl) ?_
    refine r_s (s_gf rfl rfl fun g => o_mv rfl) ?_
    refine r_s (s_gf rfl rfl fun g => o_bin (evg rfl g) rfl (bI_ne r4.2 0)) ?_
    refine r_u (o_or rfl rfl) ?_
    refine r_nil ?_
    refine x_seq ?_
    refine c_if (b := (!r10 || (r4.2 != 0))) rfl (fun h12 => ?_) fun h12 => ?_
    · have hm13 := ift hm11 h12
      clear hm11
      refine c_seq ?_
      refine c_reg ?_
      refine r_u (o_callq ca8 rfl (hawthornlaw18_awake.ok r10 hr10)) ?_
      refine r_u (o_as rfl) ?_
      refine r_nil ?_
      refine x_seq ?_
      refine c_ret ?_
      obtain rfl := Option.some.inj hm13
      refine ex_st (fun _ h => st_pk 3 [] (by decide) h) ?_
      exact x_r1 rfl (rv_t rfl) (Le.refl _) ⟨_, rfl, rfl, trivial, rfl⟩
    · have hm13 := iff_ hm11 h12
      clear hm11
      refine c_skip ?_
      refine x_seq ?_
      refine c_seq ?_
      refine c_reg ?_
      refine r_u (o_ldn 0 [vI r4.1.Kind, vW r4.1.View.V, vI r4.1.View.Primary, vW r4.1.View.PLife, vI r4.1.View.Backup, vW r4.1.View.BLife, vW r4.1.View.Epoch, vW r4.1.Value.V, vI r4.1.Value.Primary, vW r4.1.Value.PLife, vI r4.1.Value.Backup, vW r4.1.Value.BLife, vW r4.1.Value.Epoch, vW r4.1.Ballot, vB r4.1.Promise.OK, vW r4.1.Promise.V, vW r4.1.Promise.Most, vW r4.1.Promise.Ballot, vW r4.1.Promise.Value.V, vI r4.1.Promise.Value.Primary, vW r4.1.Promise.Value.PLife, vI r4.1.Promise.Value.Backup, vW r4.1.Promise.Value.BLife, vW r4.1.Promise.Value.Epoch, vW r4.1.Promise.Chosen.V, vI r4.1.Promise.Chosen.Primary, vW r4.1.Promise.Chosen.PLife, vI r4.1.Promise.Chosen.Backup, vW r4.1.Promise.Chosen.BLife, vW r4.1.Promise.Chosen.Epoch, vW r4.1.Seq, vW r4.1.Done, vW r4.1.Life, v5.Records, vI r4.1.Piece.N, vI r4.1.Piece.Of, vS r4.1.Piece.Data, vS r4.1.Piece.Sum, vS r4.1.Piece.Whole, vS r4.1.Digest, v5.Sums, vW r4.1.Session, vW r4.1.Num, vI r4.1.Op.Kind, vS r4.1.Op.Key, vS r4.1.Op.Value, vW r4.1.Op.TTL, vW r4.1.Op.Version, vI r4.1.Reply.E, vS r4.1.Reply.Value, vW r4.1.Reply.Version] ag37 rfl rfl rfl rfl) ?_
      refine rl_st (fun _ h => st_pk 3 [1, 0, 2] (by decide) h) ?_
      refine rl_ex (fun w h => st_freeze w h) fun R14 hf17 => ?_
      obtain ⟨le15, h16⟩ := hf17
      refine rl_st (fun _ h => st_pk 2 [1, 0] (by decide) h) ?_
      refine rl_ex (fun w h => st_freeze w h) fun R18 hf21 => ?_
      obtain ⟨le19, h20⟩ := hf21
      obtain ⟨r22, hr22, hm23⟩ := bs hm13
      clear hm13
      refine r_u (o_callq ca9 rfl (say_Seal.ok r4.1 v5 ⟨(RoS.mono le19 h16), h20⟩ r22 hr22)) ?_
      refine r_u (o_mv rfl) ?_
      refine r_u (o_ext rfl rfl) ?_
      refine r_u (o_ext rfl rfl) ?_
      refine r_u (o_as rfl) ?_
      refine r_u (o_as rfl) ?_
      refine r_nil ?_
      refine x_seq ?_
      refine c_seq ?_
      refine c_reg ?_
      refine r_u (o_mv rfl) ?_
      obtain ⟨r24, hr24, hm28⟩ := bs hm23
      clear hm23
      refine r_sw (s_w (o_call ca10 rfl (say_Open.ok r22.1 r24 hr24))) ?_
      rintro _ R18 _ _ ⟨v25, rfl, rfl, rfl⟩
      refine r_u (o_mv rfl) ?_
      refine r_u (o_ext rfl rfl) ?_
      refine r_u (o_ext rfl rfl) ?_
      refine r_new (o_al ze37) fun b29 => ?_
      refine r_u0 (ou_if (one_o 1 rfl) fun ho0 => ou_if (one_o 2 rfl) fun ho1 => o_stn ag37 rfl rfl rfl (al_c rfl (al_c rfl (al_c rfl (al_c rfl (al_c rfl (al_c rfl (al_c rfl (al_c rfl (al_c rfl (al_c rfl (al_c rfl (al_c rfl (al_c rfl (al_c rfl (al_c rfl (al_c rfl (al_c rfl (al_c rfl (al_c rfl (al_c rfl (al_c rfl (al_c rfl (al_c rfl (al_c rfl (al_c rfl (al_c rfl (al_c rfl (al_c rfl (al_c rfl (al_c rfl (al_c rfl (al_c rfl (al_c rfl (al_c ho0 (al_c rfl (al_c rfl (al_c rfl (al_c rfl (al_c rfl (al_c rfl (al_c ho1 (al_c rfl (al_c rfl (al_c rfl (al_c rfl (al_c rfl (al_c rfl (al_c rfl (al_c rfl (al_c rfl (al_c rfl al_n))))))))))))))))))))))))))))))))))))))))))))))))))) rfl rfl rfl) ?_
      refine r_u (o_as rfl) ?_
      refine r_nil ?_
      refine x_seq ?_
      refine c_seq ?_
      refine c_seq ?_
      obtain ⟨p30, hp33, hm34⟩ := bs hm28
      refine cd_cut (fun x ks => ∀ (R31 : PH), ∀ (le32 : Le R18 R31), EX x .normal ks [(1, vI a1), (2, vY a2), (9, vS r22.1), (60, vB p30)] R31 (Bk b29 37 [vI r24.1.Kind, vW r24.1.View.V, vI r24.1.View.Primary, vW r24.1.View.PLife, vI r24.1.View.Backup, vW r24.1.View.BLife, vW r24.1.View.Epoch, vW r24.1.Value.V, vI r24.1.Value.Primary, vW r24.1.Value.PLife, vI r24.1.Value.Backup, vW r24.1.Value.BLife, vW r24.1.Value.Epoch, vW r24.1.Ballot, vB r24.1.Promise.OK, vW r24.1.Promise.V, vW r24.1.Promise.Most, vW r24.1.Promise.Ballot, vW r24.1.Promise.Value.V, vI r24.1.Promise.Value.Primary, vW r24.1.Promise.Value.PLife, vI r24.1.Promise.Value.Backup, vW r24.1.Promise.Value.BLife, vW r24.1.Promise.Value.Epoch, vW r24.1.Promise.Chosen.V, vI r24.1.Promise.Chosen.Primary, vW r24.1.Promise.Chosen.PLife, vI r24.1.Promise.Chosen.Backup, vW r24.1.Promise.Chosen.BLife, vW r24.1.Promise.Chosen.Epoch, vW r24.1.Seq, vW r24.1.Done, vW r24.1.Life, v25.Records, vI r24.1.Piece.N, vI r24.1.Piece.Of, vS r24.1.Piece.Data, vS r24.1.Piece.Sum, vS r24.1.Piece.Whole, vS r24.1.Digest, v25.Sums, vW r24.1.Session, vW r24.1.Num, vI r24.1.Op.Kind, vS r24.1.Op.Key, vS r24.1.Op.Value, vW r24.1.Op.TTL, vW r24.1.Op.Version, vI r24.1.Reply.E, vS r24.1.Reply.Value, vW r24.1.Reply.Version] :: Bk b9 37 [vI r4.1.Kind, vW r4.1.View.V, vI r4.1.View.Primary, vW r4.1.View.PLife, vI r4.1.View.Backup, vW r4.1.View.BLife, vW r4.1.View.Epoch, vW r4.1.Value.V, vI r4.1.Value.Primary, vW r4.1.Value.PLife, vI r4.1.Value.Backup, vW r4.1.Value.BLife, vW r4.1.Value.Epoch, vW r4.1.Ballot, vB r4.1.Promise.OK, vW r4.1.Promise.V, vW r4.1.Promise.Most, vW r4.1.Promise.Ballot, vW r4.1.Promise.Value.V, vI r4.1.Promise.Value.Primary, vW r4.1.Promise.Value.PLife, vI r4.1.Promise.Value.Backup, vW r4.1.Promise.Value.BLife, vW r4.1.Promise.Value.Epoch, vW r4.1.Promise.Chosen.V, vI r4.1.Promise.Chosen.Primary, vW r4.1.Promise.Chosen.PLife, vI r4.1.Promise.Chosen.Backup, vW r4.1.Promise.Chosen.BLife, vW r4.1.Promise.Chosen.Epoch, vW r4.1.Seq, vW r4.1.Done, vW r4.1.Life, v5.Records, vI r4.1.Piece.N, vI r4.1.Piece.Of, vS r4.1.Piece.Data, vS r4.1.Piece.Sum, vS r4.1.Piece.Whole, vS r4.1.Digest, v5.Sums, vW r4.1.Session, vW r4.1.Num, vI r4.1.Op.Kind, vS r4.1.Op.Key, vS r4.1.Op.Value, vW r4.1.Op.TTL, vW r4.1.Op.Version, vI r4.1.Reply.E, vS r4.1.Reply.Value, vW r4.1.Reply.Version] :: F)) ?_ fun K35 => ?_
      · intro R31 le32
        refine x_seq ?_
        refine c_if (b := p30) rfl (fun h36 => ?_) fun h36 => ?_
        · have hm37 := ift hm34 h36
          clear hm34
          refine c_seq ?_
          refine c_reg ?_
          refine r_u (o_as rfl) ?_
          refine r_nil ?_
          refine x_seq ?_
          refine c_ret ?_
          obtain rfl := Option.some.inj hm37
          refine ex_st (fun _ h => st_pk 2 [] (by decide) h) ?_
          exact x_r1 rfl (rv_t rfl) (Le.trans (Le.trans le15 le19) le32) ⟨_, rfl, rfl, trivial, rfl⟩
        · have hm37 := iff_ hm34 h36
          clear hm34
          refine c_skip ?_
          refine x_seq ?_
          refine c_seq ?_
          refine c_seq ?_
          refine c_reg ?_
          refine r_u (o_mv rfl) ?_
          refine r_u (o_bin rfl rfl (bY_eq a2 0)) ?_
          refine r_nil ?_
          refine x_seq ?_
          refine c_if (b := (a2 == 0)) rfl (fun h38 => ?_) fun h38 => ?_
          · have hm39 := ift hm37 h38
            clear hm37
            refine c_seq ?_
            refine c_reg ?_
            refine r_u (o_as rfl) ?_
            refine r_nil ?_
            refine x_seq ?_
            refine c_ret ?_
            obtain rfl := Option.some.inj hm39
            refine ex_st (fun _ h => st_pk 2 [] (by decide) h) ?_
            exact x_r1 rfl (rv_t rfl) (Le.trans (Le.trans le15 le19) le32) ⟨_, rfl, rfl, trivial, rfl⟩
          · have hm39 := iff_ hm37 h38
            clear hm37
            refine c_skip ?_
            refine x_seq ?_
            refine c_seq ?_
            refine c_reg ?_
            refine r_u (o_mv rfl) ?_
            obtain ⟨h40, hm42⟩ := ig hm39
            clear hm39
            refine r_sw (s_w (o_sb Try.underlying9 Try.underlying45 Try.underlying5 rfl h40)) ?_
            rintro v41 R31 _ _ ⟨rfl, rfl⟩
            refine r_u (o_as rfl) ?_
            refine r_nil ?_
            refine x_seq ?_
            refine c_seq ?_
            refine c_reg ?_
            refine r_u (o_mv rfl) ?_
            refine r_u (o_mv rfl) ?_
            refine r_u (o_mv rfl) ?_
            refine r_u (o_lenO 0 Try.underlying45 rfl rfl) ?_
            obtain ⟨h43, hm44⟩ := ig hm42
            clear hm42
            refine r_u (o_bin rfl rfl (bI_rem a1 (r22.1.length : Int) h43)) ?_
            refine r_u (o_mv rfl) ?_
            refine r_u (o_lenO 0 Try.underlying45 rfl rfl) ?_
            refine r_u (o_bin rfl rfl (bI_add (a1.tmod (r22.1.length : Int)) (r22.1.length : Int))) ?_
            refine r_u (o_mv rfl) ?_
            refine r_u (o_lenO 0 Try.underlying45 rfl rfl) ?_
            refine r_u (o_bin rfl rfl (bI_rem (i64 ((a1.tmod (r22.1.length : Int)) + (r22.1.length : Int))) (r22.1.length : Int) h43)) ?_
            obtain ⟨x45, hx45, hm46⟩ := bs hm44
            clear hm44
            refine r_u (o_ixO 0 Try.underlying45 (fun _ => by kernel_rfl) rfl rfl rfl hx45) ?_
            refine r_u (o_ldO0 0 sc5 rfl rfl hx45 rfl rfl) ?_
            refine r_u (o_mv rfl) ?_
            refine r_u (o_bin rfl rfl (bY_xor x45 a2)) ?_
            refine r_u (o_ixO 0 Try.underlying45 (fun _ => by kernel_rfl) rfl rfl rfl hx45) ?_
            refine r_u0 (o_stO0 (c' := x45 ^^^ a2) sc5 rfl rfl rfl hx45 rfl rfl rfl) ?_
            refine r_nil ?_
            refine x_seq ?_
            refine c_seq ?_
            refine c_reg ?_
            refine r_u (o_mv rfl) ?_
            refine r_u (o_bs 0 Try.underlying45 Try.underlying5 Try.underlying9 rfl rfl) ?_
            obtain ⟨r47, hr47, hm51⟩ := bs hm46
            clear hm46
            refine r_sw (s_w (o_call ca10 rfl (say_Open.ok (ls r22.1 ((i64 ((a1.tmod (r22.1.length : Int)) + (r22.1.length : Int))).tmod (r22.1.length : Int)) (x45 ^^^ a2)) r47 hr47))) ?_
            rintro _ R31 _ _ ⟨v48, rfl, rfl, rfl⟩
            refine r_u (o_mv rfl) ?_
            refine r_u (o_ext rfl rfl) ?_
            refine r_u (o_ext rfl rfl) ?_
            refine r_new (o_al ze37) fun b52 => ?_
            refine r_u0 (ou_if (one_o 1 rfl) fun ho0 => ou_if (one_o 2 rfl) fun ho1 => o_stn ag37 rfl rfl rfl (al_c rfl (al_c rfl (al_c rfl (al_c rfl (al_c rfl (al_c rfl (al_c rfl (al_c rfl (al_c rfl (al_c rfl (al_c rfl (al_c rfl (al_c rfl (al_c rfl (al_c rfl (al_c rfl (al_c rfl (al_c rfl (al_c rfl (al_c rfl (al_c rfl (al_c rfl (al_c rfl (al_c rfl (al_c rfl (al_c rfl (al_c rfl (al_c rfl (al_c rfl (al_c rfl (al_c rfl (al_c rfl (al_c rfl (al_c ho0 (al_c rfl (al_c rfl (al_c rfl (al_c rfl (al_c rfl (al_c rfl (al_c ho1 (al_c rfl (al_c rfl (al_c rfl (al_c rfl (al_c rfl (al_c rfl (al_c rfl (al_c rfl (al_c rfl (al_c rfl al_n))))))))))))))))))))))))))))))))))))))))))))))))))) rfl rfl rfl) ?_
            refine r_u (o_as rfl) ?_
            refine r_nil ?_
            refine x_seq ?_
            refine c_seq ?_
            refine c_reg ?_
            refine r_u (o_mv rfl) ?_
            refine r_u (o_bin rfl rfl (bI_ne r47.2 0)) ?_
            refine r_u (o_as rfl) ?_
            refine r_nil ?_
            refine x_seq ?_
            refine c_ret ?_
            obtain rfl := Option.some.inj hm51
            refine ex_st (fun _ h => st_pk 6 [] (by decide) h) ?_
            exact x_r1 rfl (rv_t rfl) (Le.trans (Le.trans le15 le19) le32) ⟨_, rfl, rfl, trivial, rfl⟩
      · refine cd_by ((r22.2 != 0) || (r24.2 != 0)) (fun h53 => ?_) fun h53 => ?_
        · have hm54 := ift hp33 h53
          clear hp33
          refine c_reg ?_
          refine r_u (o_mv rfl) ?_
          refine r_u (o_bin rfl rfl (bI_ne r22.2 0)) ?_
          refine r_u (o_mv rfl) ?_
          refine r_s (s_gf rfl rfl fun g => o_mv rfl) ?_
          refine r_s (s_gf rfl rfl fun g => o_bin (evg rfl g) rfl (bI_ne r24.2 0)) ?_
          refine r_u (o_or rfl rfl) ?_
          refine r_u (o_mv rfl) ?_
          refine r_s (s_n rfl rfl h53) ?_
          refine r_s (s_n rfl rfl h53) ?_
          refine r_s (s_n rfl rfl h53) ?_
          refine r_s (s_n rfl rfl h53) ?_
          refine r_u (o_pt rfl h53 rfl) ?_
          refine r_u (o_mv rfl) ?_
          refine r_s (s_n rfl rfl rfl) ?_
          refine r_s (s_n rfl rfl rfl) ?_
          refine r_s (s_n rfl rfl rfl) ?_
          refine r_s (s_n rfl rfl rfl) ?_
          refine r_u (o_pt rfl rfl rfl) ?_
          refine r_nil ?_
          obtain rfl := Option.some.inj hm54
          exact x_sub (K35 _ (Le.refl _)) ⟨rfl, rfl, rfl, rfl, trivial⟩ (fun _ h => st_pk 4 [0, 3] (by decide) h)
        · have hm54 := iff_ hp33 h53
          clear hp33
          obtain ⟨r63, hr63, hm64⟩ := bs hm54
          clear hm54
          obtain ⟨p65, hp68, hm69⟩ := bs hm64
          refine cd_cut (fun x ks => ∀ (R66 : PH), ∀ (le67 : Le R18 R66), EX x .normal ks [(1, vI a1), (2, vY a2), (9, vS r22.1), (60, vB p65)] R66 (Bk b29 37 [vI r24.1.Kind, vW r24.1.View.V, vI r24.1.View.Primary, vW r24.1.View.PLife, vI r24.1.View.Backup, vW r24.1.View.BLife, vW r24.1.View.Epoch, vW r24.1.Value.V, vI r24.1.Value.Primary, vW r24.1.Value.PLife, vI r24.1.Value.Backup, vW r24.1.Value.BLife, vW r24.1.Value.Epoch, vW r24.1.Ballot, vB r24.1.Promise.OK, vW r24.1.Promise.V, vW r24.1.Promise.Most, vW r24.1.Promise.Ballot, vW r24.1.Promise.Value.V, vI r24.1.Promise.Value.Primary, vW r24.1.Promise.Value.PLife, vI r24.1.Promise.Value.Backup, vW r24.1.Promise.Value.BLife, vW r24.1.Promise.Value.Epoch, vW r24.1.Promise.Chosen.V, vI r24.1.Promise.Chosen.Primary, vW r24.1.Promise.Chosen.PLife, vI r24.1.Promise.Chosen.Backup, vW r24.1.Promise.Chosen.BLife, vW r24.1.Promise.Chosen.Epoch, vW r24.1.Seq, vW r24.1.Done, vW r24.1.Life, v25.Records, vI r24.1.Piece.N, vI r24.1.Piece.Of, vS r24.1.Piece.Data, vS r24.1.Piece.Sum, vS r24.1.Piece.Whole, vS r24.1.Digest, v25.Sums, vW r24.1.Session, vW r24.1.Num, vI r24.1.Op.Kind, vS r24.1.Op.Key, vS r24.1.Op.Value, vW r24.1.Op.TTL, vW r24.1.Op.Version, vI r24.1.Reply.E, vS r24.1.Reply.Value, vW r24.1.Reply.Version] :: Bk b9 37 [vI r4.1.Kind, vW r4.1.View.V, vI r4.1.View.Primary, vW r4.1.View.PLife, vI r4.1.View.Backup, vW r4.1.View.BLife, vW r4.1.View.Epoch, vW r4.1.Value.V, vI r4.1.Value.Primary, vW r4.1.Value.PLife, vI r4.1.Value.Backup, vW r4.1.Value.BLife, vW r4.1.Value.Epoch, vW r4.1.Ballot, vB r4.1.Promise.OK, vW r4.1.Promise.V, vW r4.1.Promise.Most, vW r4.1.Promise.Ballot, vW r4.1.Promise.Value.V, vI r4.1.Promise.Value.Primary, vW r4.1.Promise.Value.PLife, vI r4.1.Promise.Value.Backup, vW r4.1.Promise.Value.BLife, vW r4.1.Promise.Value.Epoch, vW r4.1.Promise.Chosen.V, vI r4.1.Promise.Chosen.Primary, vW r4.1.Promise.Chosen.PLife, vI r4.1.Promise.Chosen.Backup, vW r4.1.Promise.Chosen.BLife, vW r4.1.Promise.Chosen.Epoch, vW r4.1.Seq, vW r4.1.Done, vW r4.1.Life, v5.Records, vI r4.1.Piece.N, vI r4.1.Piece.Of, vS r4.1.Piece.Data, vS r4.1.Piece.Sum, vS r4.1.Piece.Whole, vS r4.1.Digest, v5.Sums, vW r4.1.Session, vW r4.1.Num, vI r4.1.Op.Kind, vS r4.1.Op.Key, vS r4.1.Op.Value, vW r4.1.Op.TTL, vW r4.1.Op.Version, vI r4.1.Reply.E, vS r4.1.Reply.Value, vW r4.1.Reply.Version] :: F)) ?_ fun K70 => ?_
          · intro R66 le67
            obtain rfl := Option.some.inj hm69
            exact x_sub (K35 _ le67) ⟨rfl, rfl, rfl, rfl, trivial⟩ (fun _ h => st_pk 2 [0, 1] (by decide) h)
          · refine cd_by r63 (fun h71 => ?_) fun h71 => ?_
            · have hm72 := ift hp68 h71
              clear hp68
              refine c_reg ?_
              refine r_u (o_mv rfl) ?_
              refine r_u (o_bin rfl rfl (bI_ne r22.2 0)) ?_
              refine r_u (o_mv rfl) ?_
              refine r_s (s_gf rfl rfl fun g => o_mv rfl) ?_
              refine r_s (s_gf rfl rfl fun g => o_bin (evg rfl g) rfl (bI_ne r24.2 0)) ?_
              refine r_u (o_or rfl rfl) ?_
              refine r_u (o_mv rfl) ?_
              refine r_s (s_y rfl rfl h53 (o_ldn 3 [vI r4.1.Kind, vW r4.1.View.V, vI r4.1.View.Primary, vW r4.1.View.PLife, vI r4.1.View.Backup, vW r4.1.View.BLife, vW r4.1.View.Epoch, vW r4.1.Value.V, vI r4.1.Value.Primary, vW r4.1.Value.PLife, vI r4.1.Value.Backup, vW r4.1.Value.BLife, vW r4.1.Value.Epoch, vW r4.1.Ballot, vB r4.1.Promise.OK, vW r4.1.Promise.V, vW r4.1.Promise.Most, vW r4.1.Promise.Ballot, vW r4.1.Promise.Value.V, vI r4.1.Promise.Value.Primary, vW r4.1.Promise.Value.PLife, vI r4.1.Promise.Value.Backup, vW r4.1.Promise.Value.BLife, vW r4.1.Promise.Value.Epoch, vW r4.1.Promise.Chosen.V, vI r4.1.Promise.Chosen.Primary, vW r4.1.Promise.Chosen.PLife, vI r4.1.Promise.Chosen.Backup, vW r4.1.Promise.Chosen.BLife, vW r4.1.Promise.Chosen.Epoch, vW r4.1.Seq, vW r4.1.Done, vW r4.1.Life, v5.Records, vI r4.1.Piece.N, vI r4.1.Piece.Of, vS r4.1.Piece.Data, vS r4.1.Piece.Sum, vS r4.1.Piece.Whole, vS r4.1.Digest, v5.Sums, vW r4.1.Session, vW r4.1.Num, vI r4.1.Op.Kind, vS r4.1.Op.Key, vS r4.1.Op.Value, vW r4.1.Op.TTL, vW r4.1.Op.Version, vI r4.1.Reply.E, vS r4.1.Reply.Value, vW r4.1.Reply.Version] ag37 rfl rfl rfl rfl)) ?_
              refine r_s (s_y rfl rfl h53 (o_ldn 0 [vI r24.1.Kind, vW r24.1.View.V, vI r24.1.View.Primary, vW r24.1.View.PLife, vI r24.1.View.Backup, vW r24.1.View.BLife, vW r24.1.View.Epoch, vW r24.1.Value.V, vI r24.1.Value.Primary, vW r24.1.Value.PLife, vI r24.1.Value.Backup, vW r24.1.Value.BLife, vW r24.1.Value.Epoch, vW r24.1.Ballot, vB r24.1.Promise.OK, vW r24.1.Promise.V, vW r24.1.Promise.Most, vW r24.1.Promise.Ballot, vW r24.1.Promise.Value.V, vI r24.1.Promise.Value.Primary, vW r24.1.Promise.Value.PLife, vI r24.1.Promise.Value.Backup, vW r24.1.Promise.Value.BLife, vW r24.1.Promise.Value.Epoch, vW r24.1.Promise.Chosen.V, vI r24.1.Promise.Chosen.Primary, vW r24.1.Promise.Chosen.PLife, vI r24.1.Promise.Chosen.Backup, vW r24.1.Promise.Chosen.BLife, vW r24.1.Promise.Chosen.Epoch, vW r24.1.Seq, vW r24.1.Done, vW r24.1.Life, v25.Records, vI r24.1.Piece.N, vI r24.1.Piece.Of, vS r24.1.Piece.Data, vS r24.1.Piece.Sum, vS r24.1.Piece.Whole, vS r24.1.Digest, v25.Sums, vW r24.1.Session, vW r24.1.Num, vI r24.1.Op.Kind, vS r24.1.Op.Key, vS r24.1.Op.Value, vW r24.1.Op.TTL, vW r24.1.Op.Version, vI r24.1.Reply.E, vS r24.1.Reply.Value, vW r24.1.Reply.Version] ag37 rfl rfl rfl rfl)) ?_
              refine rl_st (fun _ h => st_pk 4 [1, 0, 2, 3] (by decide) h) ?_
              refine rl_ex (fun w h => st_freeze w h) fun R73 hf76 => ?_
              obtain ⟨le74, h75⟩ := hf76
              refine rl_st (fun _ h => st_pk 3 [1, 0, 2] (by decide) h) ?_
              refine rl_ex (fun w h => st_freeze w h) fun R77 hf80 => ?_
              obtain ⟨le78, h79⟩ := hf80
              refine r_s (s_y rfl rfl h53 (o_callq ca11 rfl (hawthornref18_Same.ok r4.1 v5 ⟨(RoS.mono (Le.trans (Le.trans le19 le74) le78) h16), (RoS.mono (Le.trans le74 le78) h20)⟩ r24.1 v25 ⟨(RoS.mono le78 h75), h79⟩ r63 hr63))) ?_
              refine r_s (s_y rfl rfl h53 (o_not rfl)) ?_
              refine r_u (o_pf rfl h53 rfl) ?_
              refine r_u (o_mv rfl) ?_
              refine r_s (s_y rfl rfl (nbf h71) (o_mv rfl)) ?_
              refine r_s (s_y rfl rfl (nbf h71) (o_mv rfl)) ?_
              obtain ⟨r81, hr81, hm82⟩ := bs hm72
              clear hm72
              refine r_s (s_y rfl rfl (nbf h71) (o_callq ca12 rfl (hawthornref03_Frame.ok p0 r81 hr81))) ?_
              refine r_s (s_y rfl rfl (nbf h71) (o_bin rfl rfl (bS_ne r22.1 r81))) ?_
              refine r_u (o_pf rfl (nbf h71) rfl) ?_
              refine r_nil ?_
              obtain rfl := Option.some.inj hm82
              exact x_sub (K70 _ (Le.trans le74 le78)) ⟨rfl, rfl, rfl, rfl, trivial⟩ (fun _ h => st_pk 2 [0, 1] (by decide) h)
            · have hm72 := iff_ hp68 h71
              clear hp68
              refine c_reg ?_
              refine r_u (o_mv rfl) ?_
              refine r_u (o_bin rfl rfl (bI_ne r22.2 0)) ?_
              refine r_u (o_mv rfl) ?_
              refine r_s (s_gf rfl rfl fun g => o_mv rfl) ?_
              refine r_s (s_gf rfl rfl fun g => o_bin (evg rfl g) rfl (bI_ne r24.2 0)) ?_
              refine r_u (o_or rfl rfl) ?_
              refine r_u (o_mv rfl) ?_
              refine r_s (s_y rfl rfl h53 (o_ldn 3 [vI r4.1.Kind, vW r4.1.View.V, vI r4.1.View.Primary, vW r4.1.View.PLife, vI r4.1.View.Backup, vW r4.1.View.BLife, vW r4.1.View.Epoch, vW r4.1.Value.V, vI r4.1.Value.Primary, vW r4.1.Value.PLife, vI r4.1.Value.Backup, vW r4.1.Value.BLife, vW r4.1.Value.Epoch, vW r4.1.Ballot, vB r4.1.Promise.OK, vW r4.1.Promise.V, vW r4.1.Promise.Most, vW r4.1.Promise.Ballot, vW r4.1.Promise.Value.V, vI r4.1.Promise.Value.Primary, vW r4.1.Promise.Value.PLife, vI r4.1.Promise.Value.Backup, vW r4.1.Promise.Value.BLife, vW r4.1.Promise.Value.Epoch, vW r4.1.Promise.Chosen.V, vI r4.1.Promise.Chosen.Primary, vW r4.1.Promise.Chosen.PLife, vI r4.1.Promise.Chosen.Backup, vW r4.1.Promise.Chosen.BLife, vW r4.1.Promise.Chosen.Epoch, vW r4.1.Seq, vW r4.1.Done, vW r4.1.Life, v5.Records, vI r4.1.Piece.N, vI r4.1.Piece.Of, vS r4.1.Piece.Data, vS r4.1.Piece.Sum, vS r4.1.Piece.Whole, vS r4.1.Digest, v5.Sums, vW r4.1.Session, vW r4.1.Num, vI r4.1.Op.Kind, vS r4.1.Op.Key, vS r4.1.Op.Value, vW r4.1.Op.TTL, vW r4.1.Op.Version, vI r4.1.Reply.E, vS r4.1.Reply.Value, vW r4.1.Reply.Version] ag37 rfl rfl rfl rfl)) ?_
              refine r_s (s_y rfl rfl h53 (o_ldn 0 [vI r24.1.Kind, vW r24.1.View.V, vI r24.1.View.Primary, vW r24.1.View.PLife, vI r24.1.View.Backup, vW r24.1.View.BLife, vW r24.1.View.Epoch, vW r24.1.Value.V, vI r24.1.Value.Primary, vW r24.1.Value.PLife, vI r24.1.Value.Backup, vW r24.1.Value.BLife, vW r24.1.Value.Epoch, vW r24.1.Ballot, vB r24.1.Promise.OK, vW r24.1.Promise.V, vW r24.1.Promise.Most, vW r24.1.Promise.Ballot, vW r24.1.Promise.Value.V, vI r24.1.Promise.Value.Primary, vW r24.1.Promise.Value.PLife, vI r24.1.Promise.Value.Backup, vW r24.1.Promise.Value.BLife, vW r24.1.Promise.Value.Epoch, vW r24.1.Promise.Chosen.V, vI r24.1.Promise.Chosen.Primary, vW r24.1.Promise.Chosen.PLife, vI r24.1.Promise.Chosen.Backup, vW r24.1.Promise.Chosen.BLife, vW r24.1.Promise.Chosen.Epoch, vW r24.1.Seq, vW r24.1.Done, vW r24.1.Life, v25.Records, vI r24.1.Piece.N, vI r24.1.Piece.Of, vS r24.1.Piece.Data, vS r24.1.Piece.Sum, vS r24.1.Piece.Whole, vS r24.1.Digest, v25.Sums, vW r24.1.Session, vW r24.1.Num, vI r24.1.Op.Kind, vS r24.1.Op.Key, vS r24.1.Op.Value, vW r24.1.Op.TTL, vW r24.1.Op.Version, vI r24.1.Reply.E, vS r24.1.Reply.Value, vW r24.1.Reply.Version] ag37 rfl rfl rfl rfl)) ?_
              refine rl_st (fun _ h => st_pk 4 [1, 0, 2, 3] (by decide) h) ?_
              refine rl_ex (fun w h => st_freeze w h) fun R83 hf86 => ?_
              obtain ⟨le84, h85⟩ := hf86
              refine rl_st (fun _ h => st_pk 3 [1, 0, 2] (by decide) h) ?_
              refine rl_ex (fun w h => st_freeze w h) fun R87 hf90 => ?_
              obtain ⟨le88, h89⟩ := hf90
              refine r_s (s_y rfl rfl h53 (o_callq ca11 rfl (hawthornref18_Same.ok r4.1 v5 ⟨(RoS.mono (Le.trans (Le.trans le19 le84) le88) h16), (RoS.mono (Le.trans le84 le88) h20)⟩ r24.1 v25 ⟨(RoS.mono le88 h85), h89⟩ r63 hr63))) ?_
              refine r_s (s_y rfl rfl h53 (o_not rfl)) ?_
              refine r_u (o_pf rfl h53 rfl) ?_
              refine r_u (o_mv rfl) ?_
              refine r_s (s_n rfl rfl (nbt h71)) ?_
              refine r_s (s_n rfl rfl (nbt h71)) ?_
              refine r_s (s_n rfl rfl (nbt h71)) ?_
              refine r_s (s_n rfl rfl (nbt h71)) ?_
              refine r_u (o_pt rfl (nbt h71) rfl) ?_
              refine r_nil ?_
              obtain rfl := Option.some.inj hm72
              exact x_sub (K70 _ (Le.trans le84 le88)) ⟨rfl, rfl, rfl, rfl, trivial⟩ (fun _ h => st_pk 2 [0, 1] (by decide) h)
  · refine c_if (b := decide (2500 < (a0.length : Int))) rfl (fun h91 => ?_) fun h91 => ?_
    · have hm92 := ift hp1 h91
      clear hp1
      refine c_reg ?_
      refine r_u (o_mv rfl) ?_
      obtain ⟨s93, hs93, hm94⟩ := bs hm92
      clear hm92
      refine r_u (o_slS (i := 0) (j := 2500) Try.underlying9 rfl rfl rfl hs93) ?_
      refine r_u (o_as rfl) ?_
      refine r_nil ?_
      obtain rfl := Option.some.inj hm94
      exact x_sub K3 ⟨rfl, rfl, rfl, trivial⟩ (fun _ h => st_pk 0 [] (by decide) h)
    · have hm92 := iff_ hp1 h91
      clear hp1
      refine c_skip ?_
      obtain rfl := Option.some.inj hm92
      exact x_sub K3 ⟨rfl, rfl, rfl, trivial⟩ (fun _ h => st_pk 0 [] (by decide) h)

def client_New_1 (a0 : api_Op) : Bool :=
  (!(op_Check a0) || (a0.Kind == 5))
theorem client_New_1.ok {G R F} (a0 : api_Op) (r : Bool) (hm : client_New_1 a0 = r) : CO Try.prog 45 [.agg (api_Op.c a0).toArray] G R (F)
    (Ret fun u R' L' => u = vB r ∧ R' = R ∧ L' = F) := by
  unfold client_New_1 at hm
  refine co_ofN (N := 11) Try.func45 rfl rfl ?_
  refine c_seq ?_
  refine c_reg ?_
  refine r_new (o_bx (api_Op.c a0) rfl rfl) fun b0 => ?_
  refine r_u (o_as rfl) ?_
  refine r_nil ?_
  refine x_seq ?_
  refine c_seq ?_
  refine c_reg ?_
  refine r_u (o_ldn 0 (api_Op.c a0) ag32 rfl rfl rfl rfl) ?_
  refine r_u (o_callq ca46 rfl (op_Check.ok a0 _ rfl)) ?_
  refine r_u (o_not rfl) ?_
  refine r_u (o_mv rfl) ?_
  refine r_s (s_gf rfl rfl fun g => o_fa fa32_0 rfl) ?_
  refine r_s (s_gf rfl rfl fun g => o_ld 0 sc3 (evg rfl g) rfl rfl) ?_
  refine r_s (s_gf rfl rfl fun g => o_bin (evg rfl g) rfl (bI_eq a0.Kind 5)) ?_
  refine r_u (o_or rfl rfl) ?_
  refine r_u (o_as rfl) ?_
  refine r_nil ?_
  refine x_seq ?_
  refine c_ret ?_
  subst hm
  refine ex_st (fun _ h => st_pk 1 [] (by decide) h) ?_
  exact x_r1 rfl (rv_t rfl) (Le.refl _) ⟨_, rfl, rfl, rfl, rfl⟩

def slices_IndexFunc_api_Op_f45_l0 (a0 : List api_Op) : Nat → Int → Option (Unit ⊕ Int)
  | 0, _ => none
  | k6 + 1, s_5 => if decide (s_5 < (a0.length : Int)) then (gi a0 s_5).bind fun x11 => if (client_New_1 x11) then some (Sum.inr s_5) else slices_IndexFunc_api_Op_f45_l0 a0 k6 (i64 (s_5 + 1)) else some (Sum.inl ())
def slices_IndexFunc_api_Op_f45 (a0 : List api_Op) : Option Int :=
  Option.bind (slices_IndexFunc_api_Op_f45_l0 a0 (((a0.length : Int) - 0).toNat + 1) 0) fun (p0 : Unit ⊕ Int) => (match p0 with | Sum.inl q1 => some (-1) | Sum.inr r => some r)
theorem slices_IndexFunc_api_Op_f45.ok {G R F} (v0_ : Value) (a0 : List api_Op) (h0_ : RoS R v0_ 5 api_Op.c a0) (r : Int) (hm : slices_IndexFunc_api_Op_f45 a0 = some r) : CO Try.prog 95 [v0_, (.func (.func 45) #[] #[])] G R (F)
    (Ret fun u R' L' => u = vI r ∧ R' = R ∧ L' = F) := by
  unfold slices_IndexFunc_api_Op_f45 at hm
  refine co_ofN (N := 19) Try.func95 rfl rfl ?_
  refine c_seq ?_
  refine c_reg ?_
  refine r_u (o_as rfl) ?_
  refine r_nil ?_
  refine x_seq ?_
  refine c_seq ?_
  refine c_seq ?_
  refine c_reg ?_
  refine r_u (o_mv rfl) ?_
  refine r_u (o_lenR Try.underlying48 rfl h0_) ?_
  refine r_u (o_mv rfl) ?_
  refine r_nil ?_
  refine x_seq ?_
  obtain ⟨p0, hp2, hm3⟩ := bs hm
  refine cd_joinS (p := p0) (Ef := fun q1 => []) (Lf := fun q1 => F) (fun q1 hq => ?_) fun K4 => ?_
  · subst hq
    try dsimp only at hm3
    refine x_seq ?_
    refine c_seq ?_
    refine c_reg ?_
    refine r_u (o_as rfl) ?_
    refine r_nil ?_
    refine x_seq ?_
    refine c_ret ?_
    obtain rfl := Option.some.inj hm3
    exact x_r1 rfl (rv_t rfl) (Le.refl _) ⟨_, rfl, rfl, rfl, rfl⟩
  · refine c_blk ?_
    refine cd_loop (M := fun k6 (s_5 : Int) => slices_IndexFunc_api_Op_f45_l0 a0 k6 s_5 = some p0) (Ef := fun (s_5 : Int) => [(0, v0_), (1, .func (.func 45) #[] #[]), (7, vI (a0.length : Int)), (8, vI s_5)]) (Lf := fun (s_5 : Int) => F) (((a0.length : Int) - 0).toNat + 1) 0 hp2 ⟨rfl, rfl, rfl, rfl, trivial⟩ (fun _ h => h) (fun _ h => by cases h) fun k6 s_5 hM8 => ?_
    have hm7 : slices_IndexFunc_api_Op_f45_l0 a0 (k6 + 1) s_5 = some p0 := hM8
    rw [slices_IndexFunc_api_Op_f45_l0] at hm7
    refine c_seq ?_
    refine c_reg ?_
    refine r_u (o_bin rfl rfl (bI_lt s_5 (a0.length : Int))) ?_
    refine r_nil ?_
    refine x_seq ?_
    refine c_seq ?_
    refine c_if (b := decide (s_5 < (a0.length : Int))) rfl (fun h9 => ?_) fun h9 => ?_
    · have hm10 := ift hm7 h9
      clear hm7
      refine c_skip ?_
      refine x_seq ?_
      refine c_seq ?_
      refine c_blk ?_
      refine c_seq ?_
      refine c_reg ?_
      refine r_u (o_mv rfl) ?_
      refine r_u (o_as rfl) ?_
      refine r_nil ?_
      refine x_seq ?_
      refine c_seq ?_
      refine c_reg ?_
      refine r_u (o_mv rfl) ?_
      refine r_u (o_mv rfl) ?_
      refine r_u (o_mv rfl) ?_
      obtain ⟨x11, hx11, hm12⟩ := bs hm10
      clear hm10
      obtain ⟨b11, o11, l11, T11, fr11, c11, hv11, hR11, he11, hi11⟩ := RoS.ne h0_ hx11
      refine r_u (o_ix (sz := 5) Try.underlying48 (fun _ => by kernel_rfl) rfl rfl hv11 hi11) ?_
      refine r_u (o_ldnR (api_Op.c x11) ag32 rfl hR11 he11 rfl) ?_
      refine r_u (o_callqV rfl ca45 rfl (client_New_1.ok x11 _ rfl)) ?_
      refine r_nil ?_
      refine x_seq ?_
      refine c_if (b := (client_New_1 x11)) rfl (fun h13 => ?_) fun h13 => ?_
      · have hm14 := ift hm12 h13
        clear hm12
        refine c_seq ?_
        refine c_reg ?_
        refine r_u (o_mv rfl) ?_
        refine r_u (o_as rfl) ?_
        refine r_nil ?_
        refine x_seq ?_
        refine c_ret ?_
        obtain rfl := Option.some.inj hm14
        try dsimp only at hm3
        obtain rfl := Option.some.inj hm3
        exact x_r1 rfl (rv_t rfl) (Le.refl _) ⟨_, rfl, rfl, rfl, rfl⟩
      · have hm14 := iff_ hm12 h13
        clear hm12
        refine c_skip ?_
        refine x_blk ?_
        refine x_seq ?_
        refine c_reg ?_
        refine r_u (o_bin rfl rfl (bI_add s_5 1)) ?_
        refine r_u (o_mv rfl) ?_
        refine r_nil ?_
        exact x_lp (i64 (s_5 + 1)) hm14 ⟨rfl, rfl, rfl, rfl, trivial⟩ (fun _ h => st_pk 0 [] (by decide) h)
    · have hm10 := iff_ hm7 h9
      clear hm7
      refine c_exit (x_exit (ks' := _) rfl ?_)
      obtain rfl := Option.some.inj hm10
      exact x_sub (K4 _ rfl) trivial (fun _ h => st_pk 0 [] (by decide) h)

def slices_ContainsFunc_api_Op_f45 (a0 : List api_Op) : Option Bool :=
  (slices_IndexFunc_api_Op_f45 a0).bind fun r0 => some (decide (0 ≤ r0))
theorem slices_ContainsFunc_api_Op_f45.ok {G R F} (v0_ : Value) (a0 : List api_Op) (h0_ : RoS R v0_ 5 api_Op.c a0) (r : Bool) (hm : slices_ContainsFunc_api_Op_f45 a0 = some r) : CO Try.prog 47 [v0_, (.func (.func 45) #[] #[])] G R (F)
    (Ret fun u R' L' => u = vB r ∧ R' = R ∧ L' = F) := by
  unfold slices_ContainsFunc_api_Op_f45 at hm
  refine co_ofN (N := 9) Try.func47 rfl rfl ?_
  refine c_seq ?_
  refine c_reg ?_
  refine r_u (o_as rfl) ?_
  refine r_nil ?_
  refine x_seq ?_
  refine c_seq ?_
  refine c_reg ?_
  refine r_u (o_mv rfl) ?_
  refine r_u (o_mv rfl) ?_
  obtain ⟨r0, hr0, hm1⟩ := bs hm
  clear hm
  refine r_u (o_callq ca95 rfl (slices_IndexFunc_api_Op_f45.ok v0_ a0 h0_ r0 hr0)) ?_
  refine r_u (o_bin rfl rfl (bI_ge r0 0)) ?_
  refine r_u (o_as rfl) ?_
  refine r_nil ?_
  refine x_seq ?_
  refine c_ret ?_
  obtain rfl := Option.some.inj hm1
  exact x_r1 rfl (rv_t rfl) (Le.refl _) ⟨_, rfl, rfl, rfl, rfl⟩

def client_New (a0 : Int) (a1 : List api_Op) : Option (Option client_Client × Int) :=
  Option.bind (if ((decide (a0 < 10) || decide (1048576 ≤ a0)) || decide (64 < (a1.length : Int))) then some true else (slices_ContainsFunc_api_Op_f45 a1).bind fun r12 => some r12) fun p0 => if p0 then some (none, 1) else (apd 56 [] a1).bind fun l7 => some ((some (⟨a0, l7, 0, 0, 0, 0, false, [], []⟩ : client_Client)), 0)
theorem client_New.ok {G R F} (a0 : Int) (v1_ : Value) (a1 : List api_Op) (h1_ : RoS R v1_ 5 api_Op.c a1) (r : Option client_Client × Int) (hm : client_New a0 a1 = some r) : CO Try.prog 13 [vI a0, v1_] G R (F)
    (Ret fun u R' L' => ∃ (p0 : Value × client_Client.G), u = .tuple #[p0.1, vI r.2] ∧ R' = R ∧ L' = rO (client_Client.op p0.2) p0.1 r.1 :: F) := by
  unfold client_New at hm
  refine co_ofN (N := 28) Try.func13 rfl rfl ?_
  refine c_seq ?_
  refine c_reg ?_
  refine r_u (o_as rfl) ?_
  refine r_u (o_as rfl) ?_
  refine r_nil ?_
  refine x_seq ?_
  refine c_seq ?_
  refine c_reg ?_
  refine r_u (o_as rfl) ?_
  refine r_nil ?_
  refine x_seq ?_
  refine c_seq ?_
  refine c_seq ?_
  obtain ⟨p0, hp1, hm2⟩ := bs hm
  refine cd_join (E' := [(0, vI a0), (1, v1_), (22, vB p0)]) (L' := F) ?_ fun K3 => ?_
  · refine x_seq ?_
    refine c_if (b := p0) rfl (fun h4 => ?_) fun h4 => ?_
    · have hm5 := ift hm2 h4
      clear hm2
      refine c_seq ?_
      refine c_reg ?_
      refine r_u (o_as rfl) ?_
      refine r_u (o_as rfl) ?_
      refine r_nil ?_
      refine x_seq ?_
      refine c_ret ?_
      refine ex_st (fun _ h => st_none (f := client_Client.op default) h) ?_
      obtain rfl := Option.some.inj hm5
      exact x_r2 rfl (rv_t rfl) (rv_t rfl) (Le.refl _) ⟨_, rfl, (nl, default), rfl, rfl, rfl⟩
    · have hm5 := iff_ hm2 h4
      clear hm2
      refine c_skip ?_
      refine x_seq ?_
      refine c_seq ?_
      refine c_reg ?_
      refine r_u (o_mv rfl) ?_
      refine r_u (o_mv rfl) ?_
      obtain ⟨l7, hl7, hm8⟩ := bs hm5
      clear hm5
      refine r_sw (s_w (o_call ca48 rfl (clone48.okR h1_ hl7))) ?_
      rintro v6 R _ _ ⟨rfl, rfl⟩
      refine r_u (ou_if (hd_o 0 rfl) fun hb0 => o_bld [vI a0, v6, vI 0, vI 0, vI 0, vI 0, vB false, .slice none 0 0, .slice none 0 0] rfl (fun _ => by obtain ⟨_, _, rfl⟩ := hb0; kernel_rfl)) ?_
      refine r_new (o_bx [vI a0, v6, vI 0, vI 0, vI 0, vI 0, vB false, .slice none 0 0, .slice none 0 0] rfl rfl) fun b9 => ?_
      refine r_u (o_as rfl) ?_
      refine r_u (o_as rfl) ?_
      refine r_nil ?_
      refine x_seq ?_
      refine c_ret ?_
      refine ex_st (fun _ h => st_nil (ap := true) (T := 65) (sz := 9) (en := api_Heard.c) h) ?_
      refine ex_st (fun _ h => st_nil (ap := true) (T := 22) (sz := 1) (en := eW) h) ?_
      refine ex_st (fun _ h => st_pk 4 [2, 3, 1, 0] (by decide) h) ?_
      refine ex_st (fun _ h => st_some (f := client_Client.op (⟨v6, .slice none 0 0, .slice none 0 0 ⟩ : client_Client.G)) (a := (⟨a0, l7, 0, 0, 0, 0, false, [], []⟩ : client_Client)) (st_star_f (A := client_Client.fl b9 (⟨a0, l7, 0, 0, 0, 0, false, [], []⟩ : client_Client) (⟨v6, .slice none 0 0, .slice none 0 0 ⟩ : client_Client.G)) h)) ?_
      obtain rfl := Option.some.inj hm8
      exact x_r2 rfl (rv_t rfl) (rv_t rfl) (Le.refl _) ⟨_, rfl, (pt b9 0, (⟨v6, .slice none 0 0, .slice none 0 0 ⟩ : client_Client.G)), rfl, rfl, rfl⟩
  · refine cd_by ((decide (a0 < 10) || decide (1048576 ≤ a0)) || decide (64 < (a1.length : Int))) (fun h10 => ?_) fun h10 => ?_
    · have hm11 := ift hp1 h10
      clear hp1
      refine c_reg ?_
      refine r_u (o_mv rfl) ?_
      refine r_u (o_bin rfl rfl (bI_lt a0 10)) ?_
      refine r_u (o_mv rfl) ?_
      refine r_s (s_gf rfl rfl fun g => o_mv rfl) ?_
      refine r_s (s_gf rfl rfl fun g => o_bin (evg rfl g) rfl (bI_ge a0 1048576)) ?_
      refine r_u (o_or rfl rfl) ?_
      refine r_u (o_mv rfl) ?_
      refine r_s (s_gf rfl rfl fun g => o_mv rfl) ?_
      refine r_s (s_gf rfl rfl fun g => o_lenR Try.underlying48 (evg rfl g) h1_) ?_
      refine r_s (s_gf rfl rfl fun g => o_bin (evg rfl g) rfl (bI_gt (a1.length : Int) 64)) ?_
      refine r_u (o_or rfl rfl) ?_
      refine r_u (o_mv rfl) ?_
      refine r_s (s_n rfl rfl h10) ?_
      refine r_s (s_n rfl rfl h10) ?_
      refine r_s (s_n rfl rfl h10) ?_
      refine r_u (o_pt rfl h10 rfl) ?_
      refine r_nil ?_
      obtain rfl := Option.some.inj hm11
      exact x_sub K3 ⟨rfl, rfl, rfl, trivial⟩ (fun _ h => st_pk 0 [] (by decide) h)
    · have hm11 := iff_ hp1 h10
      clear hp1
      refine c_reg ?_
      refine r_u (o_mv rfl) ?_
      refine r_u (o_bin rfl rfl (bI_lt a0 10)) ?_
      refine r_u (o_mv rfl) ?_
      refine r_s (s_gf rfl rfl fun g => o_mv rfl) ?_
      refine r_s (s_gf rfl rfl fun g => o_bin (evg rfl g) rfl (bI_ge a0 1048576)) ?_
      refine r_u (o_or rfl rfl) ?_
      refine r_u (o_mv rfl) ?_
      refine r_s (s_gf rfl rfl fun g => o_mv rfl) ?_
      refine r_s (s_gf rfl rfl fun g => o_lenR Try.underlying48 (evg rfl g) h1_) ?_
      refine r_s (s_gf rfl rfl fun g => o_bin (evg rfl g) rfl (bI_gt (a1.length : Int) 64)) ?_
      refine r_u (o_or rfl rfl) ?_
      refine r_u (o_mv rfl) ?_
      refine r_s (s_y rfl rfl h10 (o_mv rfl)) ?_
      refine r_s (s_y rfl rfl h10 (o_mv rfl)) ?_
      obtain ⟨r12, hr12, hm13⟩ := bs hm11
      clear hm11
      refine r_s (s_y rfl rfl h10 (o_callq ca47 rfl (slices_ContainsFunc_api_Op_f45.ok v1_ a1 h1_ r12 hr12))) ?_
      refine r_u (o_pf rfl h10 rfl) ?_
      refine r_nil ?_
      obtain rfl := Option.some.inj hm13
      exact x_sub K3 ⟨rfl, rfl, rfl, trivial⟩ (fun _ h => st_pk 0 [] (by decide) h)

def hawthornlaw21_get  : api_Op :=
  (⟨1, [107], [], 0, 0⟩ : api_Op)
theorem hawthornlaw21_get.ok {G R F} (r : api_Op) (hm : hawthornlaw21_get = r) : CO Try.prog 22 [] G R (F)
    (Ret fun u R' L' => u = .agg (api_Op.c r).toArray ∧ R' = R ∧ L' = F) := by
  unfold hawthornlaw21_get at hm
  refine co_ofN (N := 2) Try.func22 rfl rfl ?_
  refine c_seq ?_
  refine c_reg ?_
  refine r_new (o_al ze32) fun b0 => ?_
  refine r_nil ?_
  refine x_seq ?_
  refine c_seq ?_
  refine c_reg ?_
  refine r_u (o_bld [vI 1, vS [107], vS [], vW 0, vW 0] rfl (fun _ => by kernel_rfl)) ?_
  refine r_u0 (o_stn ag32 rfl rfl rfl rfl rfl rfl rfl) ?_
  refine r_nil ?_
  refine x_seq ?_
  refine c_ret ?_
  subst hm
  exact x_d1 rfl (rv_n 0 [vI 1, vS [107], vS [], vW 0, vW 0] ag32 rfl rfl rfl rfl) (fun _ h => st_pk 1 [] (by decide) h) (Le.refl _) ⟨_, rfl, rfl, rfl, rfl⟩

def client_Client_Ended (a0 : client_Client) : Bool :=
  decide ((a0.l.length : Int) ≤ a0.at_)
theorem client_Client_Ended.ok {G R F} (b0_ : Nat) (a0 : client_Client) (g0_ : client_Client.G) (r : Bool) (hm : client_Client_Ended a0 = r) : CO Try.prog 20 [pt b0_ 0] G R (Bk b0_ 97 [vI a0.n, g0_.l, vI a0.at_, vI a0.to, vI a0.since, vI a0.began, vB a0.under, g0_.heard, g0_.epochs] :: OwS true 32 5 api_Op.c g0_.l a0.l :: OwS true 65 9 api_Heard.c g0_.heard a0.heard :: OwS true 22 1 eW g0_.epochs a0.epochs :: F)
    (Ret fun u R' L' => u = vB r ∧ R' = R ∧ L' = Bk b0_ 97 [vI a0.n, g0_.l, vI a0.at_, vI a0.to, vI a0.since, vI a0.began, vB a0.under, g0_.heard, g0_.epochs] :: OwS true 32 5 api_Op.c g0_.l a0.l :: OwS true 65 9 api_Heard.c g0_.heard a0.heard :: OwS true 22 1 eW g0_.epochs a0.epochs :: F) := by
  unfold client_Client_Ended at hm
  refine co_ofN (N := 17) Try.func20 rfl rfl ?_
  refine c_seq ?_
  refine c_reg ?_
  refine r_u (o_as rfl) ?_
  refine r_nil ?_
  refine x_seq ?_
  refine c_seq ?_
  refine c_any mixed (effs := []) (V := []) ?_
  refine stage_ext [(0, pt b0_ 0), (1, vB false), (2, vB false), (3, pt b0_ 0), (4, pt b0_ 0), (5, pt b0_ 2), (6, vI a0.at_), (7, pt b0_ 0), (8, pt b0_ 0), (9, pt b0_ 1), (10, g0_.l), (11, vI (a0.l.length : Int)), (12, vB (decide ((a0.l.length : Int) ≤ a0.at_))), (13, vB (decide ((a0.l.length : Int) ≤ a0.at_))), (14, vB (decide ((a0.l.length : Int) ≤ a0.at_)))] rfl ?_
  refine stage rfl rfl rfl rfl [0, 1, 3, 7, 15, 31, 63, 7, 135, 391, 903, 1927, 4095, 8191, 16383] [0, 1, 2, 3, 4, 5, 6, 7, 8, 9, 10, 11, 12, 13, 14] [] rfl rfl rfl (qc rfl rfl (s_u (o_mv rfl)) (qc rfl rfl (s_u (o_bin rfl rfl (bP_eqp Try.underlying49))) (qc rfl rfl (s_u (o_mv rfl)) (qc rfl rfl (s_y rfl rfl rfl (o_mv rfl)) (qc rfl rfl (s_y rfl rfl rfl (o_nc rfl)) (qc rfl rfl (s_y rfl rfl rfl (o_fa fa97_2 rfl)) (qc rfl rfl (s_y rfl rfl rfl (o_ld 0 sc3 rfl rfl rfl)) (qc rfl rfl (s_y rfl rfl rfl (o_mv rfl)) (qc rfl rfl (s_y rfl rfl rfl (o_nc rfl)) (qc rfl rfl (s_y rfl rfl rfl (o_fa fa97_1 rfl)) (qc rfl rfl (s_y rfl rfl rfl (o_ld 0 sc48 rfl rfl rfl)) (qc rfl rfl (s_y rfl rfl rfl (o_lenO 1 Try.underlying48 rfl rfl)) (qc rfl rfl (s_y rfl rfl rfl (o_bin rfl rfl (bI_ge a0.at_ (a0.l.length : Int)))) (qc rfl rfl (s_u (o_pf rfl rfl rfl)) (qc rfl rfl (s_u (o_as rfl)) qn))))))))))))))) en ?_
  intro _
  refine ex_sub (E' := [(2, vB (decide ((a0.l.length : Int) ≤ a0.at_)))]) ⟨rfl, trivial⟩ ?_
  refine x_seq ?_
  refine c_ret ?_
  subst hm
  exact x_r1 rfl (rv_t rfl) (Le.refl _) ⟨_, rfl, rfl, rfl, rfl⟩

def client_Client_ask (a0 : client_Client) : Option (List api_Packet × client_Client) :=
  (gi a0.l a0.at_).bind fun x3 => (say_Seal (⟨13, (⟨0, 0, 0, 0, 0, 0⟩ : api_View), (⟨0, 0, 0, 0, 0, 0⟩ : api_View), 0, (⟨false, 0, 0, 0, (⟨0, 0, 0, 0, 0, 0⟩ : api_View), (⟨0, 0, 0, 0, 0, 0⟩ : api_View)⟩ : api_Promise), 0, 0, 0, [], (⟨0, 0, [], [], []⟩ : api_Piece), [], [], toW a0.n, toW (i64 (a0.at_ + 1)), x3, (⟨0, [], 0⟩ : api_Reply)⟩ : api_Say)).bind fun r5 => if (r5.2 != 0) then some ([], (⟨a0.n, a0.l, a0.at_, a0.to, 0, a0.began, a0.under, a0.heard, a0.epochs⟩ : client_Client)) else some ([(⟨a0.n, a0.to, r5.1, false⟩ : api_Packet)], (⟨a0.n, a0.l, a0.at_, a0.to, 0, a0.began, a0.under, a0.heard, a0.epochs⟩ : client_Client))
theorem client_Client_ask.ok {G R F} (b0_ : Nat) (a0 : client_Client) (g0_ : client_Client.G) (r : List api_Packet × client_Client) (hm : client_Client_ask a0 = some r) : CO Try.prog 49 [pt b0_ 0] G R (Bk b0_ 97 [vI a0.n, g0_.l, vI a0.at_, vI a0.to, vI a0.since, vI a0.began, vB a0.under, g0_.heard, g0_.epochs] :: OwS true 32 5 api_Op.c g0_.l a0.l :: OwS true 65 9 api_Heard.c g0_.heard a0.heard :: OwS true 22 1 eW g0_.epochs a0.epochs :: F)
    (Ret fun u R' L' => ∃ p0, u = p0 ∧ R' = R ∧ L' = OwS true 59 4 api_Packet.c p0 r.1 :: Bk b0_ 97 [vI r.2.n, g0_.l, vI r.2.at_, vI r.2.to, vI r.2.since, vI r.2.began, vB r.2.under, g0_.heard, g0_.epochs] :: OwS true 32 5 api_Op.c g0_.l r.2.l :: OwS true 65 9 api_Heard.c g0_.heard r.2.heard :: OwS true 22 1 eW g0_.epochs r.2.epochs :: F) := by
  unfold client_Client_ask at hm
  refine co_ofN (N := 47) Try.func49 rfl rfl ?_
  refine c_seq ?_
  refine c_reg ?_
  refine r_u (o_as rfl) ?_
  refine r_nil ?_
  refine x_seq ?_
  refine c_seq ?_
  refine c_reg ?_
  refine r_u (o_mv rfl) ?_
  refine r_u (o_nc rfl) ?_
  refine r_u (o_fa fa97_4 rfl) ?_
  refine r_u0 (o_st sc3 rfl rfl rfl rfl rfl rfl) ?_
  refine r_nil ?_
  refine x_seq ?_
  refine c_seq ?_
  obtain ⟨x3, hx3, hm4⟩ := bs hm
  clear hm
  obtain ⟨r5, hr5, hm6⟩ := bs hm4
  clear hm4
  refine c_any mixed (effs := []) (V := []) ?_
  refine stage_ext [(0, pt b0_ 0), (1, pt b0_ 0), (2, pt b0_ 0), (3, vI a0.n), (4, vW (toW a0.n)), (5, pt b0_ 0), (6, pt b0_ 0), (7, pt b0_ 2), (8, vI a0.at_), (9, vI (i64 (a0.at_ + 1))), (10, vW (toW (i64 (a0.at_ + 1)))), (11, pt b0_ 0), (12, pt b0_ 0), (13, pt b0_ 1), (14, g0_.l), (15, pt b0_ 0), (16, pt b0_ 0), (17, pt b0_ 2), (18, vI a0.at_), (19, pt (sb g0_.l) (so g0_.l + a0.at_.toNat * 5)), (20, .agg (api_Op.c x3).toArray), (21, .agg [vI 13, vW 0, vI 0, vW 0, vI 0, vW 0, vW 0, vW 0, vI 0, vW 0, vI 0, vW 0, vW 0, vW 0, vB false, vW 0, vW 0, vW 0, vW 0, vI 0, vW 0, vI 0, vW 0, vW 0, vW 0, vI 0, vW 0, vI 0, vW 0, vW 0, vW 0, vW 0, vW 0, .slice none 0 0, vI 0, vI 0, vS [], vS [], vS [], vS [], .slice none 0 0, vW (toW a0.n), vW (toW (i64 (a0.at_ + 1))), vI x3.Kind, vS x3.Key, vS x3.Value, vW x3.TTL, vW x3.Version, vI 0, vS [], vW 0].toArray), (22, .tuple #[vS r5.1, vI r5.2]), (23, .tuple #[vS r5.1, vI r5.2]), (24, vS r5.1), (25, vI r5.2), (26, vS r5.1), (27, vI r5.2)] rfl ?_
  refine stage rfl rfl rfl rfl [0, 1, 3, 7, 15, 0, 32, 96, 224, 480, 992, 0, 2048, 6144, 14336, 0, 32768, 98304, 229376, 522240, 1046528, 2097151, 4194303, 8388607, 16777215, 16777215, 33554431, 134217727] [0, 1, 2, 3, 4, 5, 6, 7, 8, 9, 10, 11, 12, 13, 14, 15, 16, 17, 18, 19, 20, 21, 22, 23, 24, 25, 26, 27] [] rfl rfl rfl (qc rfl rfl (s_u (o_mv rfl)) (qc rfl rfl (s_u (o_nc rfl)) (qc rfl rfl (s_u (o_fa fa97_0 rfl)) (qc rfl rfl (s_u (o_ld 0 sc3 rfl rfl rfl)) (qc rfl rfl (s_u (o_cv rfl (cIW Try.underlying3 Try.underlying22 a0.n))) (qc rfl rfl (s_u (o_mv rfl)) (qc rfl rfl (s_u (o_nc rfl)) (qc rfl rfl (s_u (o_fa fa97_2 rfl)) (qc rfl rfl (s_u (o_ld 0 sc3 rfl rfl rfl)) (qc rfl rfl (s_u (o_bin rfl rfl (bI_add a0.at_ 1))) (qc rfl rfl (s_u (o_cv rfl (cIW Try.underlying3 Try.underlying22 (i64 (a0.at_ + 1))))) (qc rfl rfl (s_u (o_mv rfl)) (qc rfl rfl (s_u (o_nc rfl)) (qc rfl rfl (s_u (o_fa fa97_1 rfl)) (qc rfl rfl (s_u (o_ld 0 sc48 rfl rfl rfl)) (qc rfl rfl (s_u (o_mv rfl)) (qc rfl rfl (s_u (o_nc rfl)) (qc rfl rfl (s_u (o_fa fa97_2 rfl)) (qc rfl rfl (s_u (o_ld 0 sc3 rfl rfl rfl)) (qc rfl rfl (s_u (o_ixO 1 Try.underlying48 (fun _ => by kernel_rfl) rfl rfl rfl hx3)) (qc rfl rfl (s_u (o_ldnO 1 ag32 rfl rfl hx3 rfl)) (qc rfl rfl (s_u (o_bld [vI 13, vW 0, vI 0, vW 0, vI 0, vW 0, vW 0, vW 0, vI 0, vW 0, vI 0, vW 0, vW 0, vW 0, vB false, vW 0, vW 0, vW 0, vW 0, vI 0, vW 0, vI 0, vW 0, vW 0, vW 0, vI 0, vW 0, vI 0, vW 0, vW 0, vW 0, vW 0, vW 0, .slice none 0 0, vI 0, vI 0, vS [], vS [], vS [], vS [], .slice none 0 0, vW (toW a0.n), vW (toW (i64 (a0.at_ + 1))), vI x3.Kind, vS x3.Key, vS x3.Value, vW x3.TTL, vW x3.Version, vI 0, vS [], vW 0] rfl (fun _ => by kernel_rfl))) (qc rfl rfl (s_u (o_callq ca9 rfl (say_Seal.ok (⟨13, (⟨0, 0, 0, 0, 0, 0⟩ : api_View), (⟨0, 0, 0, 0, 0, 0⟩ : api_View), 0, (⟨false, 0, 0, 0, (⟨0, 0, 0, 0, 0, 0⟩ : api_View), (⟨0, 0, 0, 0, 0, 0⟩ : api_View)⟩ : api_Promise), 0, 0, 0, [], (⟨0, 0, [], [], []⟩ : api_Piece), [], [], toW a0.n, toW (i64 (a0.at_ + 1)), x3, (⟨0, [], 0⟩ : api_Reply)⟩ : api_Say) (⟨.slice none 0 0, .slice none 0 0⟩ : api_Say.G) ⟨RoS.nil, RoS.nil⟩ r5 hr5))) (qc rfl rfl (s_u (o_mv rfl)) (qc rfl rfl (s_u (o_ext rfl rfl)) (qc rfl rfl (s_u (o_ext rfl rfl)) (qc rfl rfl (s_u (o_as rfl)) (qc rfl rfl (s_u (o_as rfl)) qn)))))))))))))))))))))))))))) en ?_
  intro _
  refine ex_sub (E' := [(0, pt b0_ 0), (3, vS r5.1), (4, vI r5.2)]) ⟨rfl, rfl, rfl, trivial⟩ ?_
  refine x_seq ?_
  refine c_seq ?_
  refine c_seq ?_
  refine c_reg ?_
  refine r_u (o_mv rfl) ?_
  refine r_u (o_bin rfl rfl (bI_ne r5.2 0)) ?_
  refine r_nil ?_
  refine x_seq ?_
  refine c_if (b := (r5.2 != 0)) rfl (fun h7 => ?_) fun h7 => ?_
  · have hm8 := ift hm6 h7
    clear hm6
    refine c_seq ?_
    refine c_reg ?_
    refine r_u (o_as rfl) ?_
    refine r_nil ?_
    refine x_seq ?_
    refine c_ret ?_
    refine ex_st (fun _ h => st_nil (ap := true) (T := 59) (sz := 4) (en := api_Packet.c) h) ?_
    obtain rfl := Option.some.inj hm8
    exact x_r1 rfl (rv_t rfl) (Le.refl _) ⟨_, rfl, (.slice none 0 0), rfl, rfl, rfl⟩
  · have hm8 := iff_ hm6 h7
    clear hm6
    refine c_skip ?_
    refine x_seq ?_
    refine c_seq ?_
    refine c_any mixed (effs := [10]) (V := []) ?_
    refine stage_ext [(0, pt b0_ 0), (1, pt b0_ 0), (2, pt b0_ 0), (3, vI a0.n), (4, pt b0_ 0), (5, pt b0_ 0), (6, pt b0_ 3), (7, vI a0.to), (8, vS r5.1), (9, .agg [vI a0.n, vI a0.to, vS r5.1, vB false].toArray)] rfl ?_
    refine stage rfl rfl rfl rfl [0, 1, 3, 7, 0, 16, 48, 112, 0, 511, 1023, 2047] [0, 1, 2, 3, 4, 5, 6, 7, 8, 9] [10] rfl rfl rfl (qc rfl rfl (s_u (o_mv rfl)) (qc rfl rfl (s_u (o_nc rfl)) (qc rfl rfl (s_u (o_fa fa97_0 rfl)) (qc rfl rfl (s_u (o_ld 0 sc3 rfl rfl rfl)) (qc rfl rfl (s_u (o_mv rfl)) (qc rfl rfl (s_u (o_nc rfl)) (qc rfl rfl (s_u (o_fa fa97_3 rfl)) (qc rfl rfl (s_u (o_ld 0 sc3 rfl rfl rfl)) (qc rfl rfl (s_u (o_mv rfl)) (qc rfl rfl (s_u (o_bld [vI a0.n, vI a0.to, vS r5.1, vB false] rfl (fun _ => by kernel_rfl))) qn)))))))))) ?_ (fun h => absurd h (by decide))
    refine ec (eo_w rfl (s_w (o_bsl (en := api_Packet.c) (sz := 4) (e := 59) (cs := [vI a0.n, vI a0.to, vS r5.1, vB false]) (r := [(⟨a0.n, a0.to, r5.1, false⟩ : api_Packet)]) rfl (fun _ => by kernel_rfl) rfl (by decide) rfl (fun _ => rfl))) ?_) en
    rintro v9 R _ _ ⟨rfl, rfl⟩
    refine stage_ext [(11, v9)] rfl ?_
    refine stage rfl rfl rfl rfl [0, 1, 3, 7, 0, 16, 48, 112, 0, 511, 1023, 2047] [11] [] rfl rfl rfl (qc rfl rfl (s_u (o_as rfl)) qn) en ?_
    intro _
    refine ex_sub (E' := [(2, v9)]) ⟨rfl, trivial⟩ ?_
    refine x_seq ?_
    refine c_ret ?_
    obtain rfl := Option.some.inj hm8
    exact x_r1 rfl (rv_t rfl) (Le.refl _) ⟨_, rfl, v9, rfl, rfl, rfl⟩

def client_Client_Tick (a0 : client_Client) (a1 : Int) : Option (List api_Packet × client_Client) :=
  if (client_Client_Ended a0) then some ([], a0) else if !a0.under then (client_Client_ask (⟨a0.n, a0.l, a0.at_, a0.to, a0.since, a1, true, a0.heard, a0.epochs⟩ : client_Client)).bind fun r7 => some (r7.1, r7.2) else if decide (5 ≤ (i64 (a0.since + 1))) then (client_Client_ask (⟨a0.n, a0.l, a0.at_, i64 (1 - a0.to), i64 (a0.since + 1), a0.began, a0.under, a0.heard, a0.epochs⟩ : client_Client)).bind fun r12 => some (r12.1, r12.2) else some ([], (⟨a0.n, a0.l, a0.at_, a0.to, i64 (a0.since + 1), a0.began, a0.under, a0.heard, a0.epochs⟩ : client_Client))
theorem client_Client_Tick.ok {G R F} (b0_ : Nat) (a0 : client_Client) (g0_ : client_Client.G) (a1 : Int) (r : List api_Packet × client_Client) (hm : client_Client_Tick a0 a1 = some r) : CO Try.prog 15 [pt b0_ 0, vI a1] G R (Bk b0_ 97 [vI a0.n, g0_.l, vI a0.at_, vI a0.to, vI a0.since, vI a0.began, vB a0.under, g0_.heard, g0_.epochs] :: OwS true 32 5 api_Op.c g0_.l a0.l :: OwS true 65 9 api_Heard.c g0_.heard a0.heard :: OwS true 22 1 eW g0_.epochs a0.epochs :: F)
    (Ret fun u R' L' => ∃ p0, u = p0 ∧ R' = R ∧ L' = OwS true 59 4 api_Packet.c p0 r.1 :: Bk b0_ 97 [vI r.2.n, g0_.l, vI r.2.at_, vI r.2.to, vI r.2.since, vI r.2.began, vB r.2.under, g0_.heard, g0_.epochs] :: OwS true 32 5 api_Op.c g0_.l r.2.l :: OwS true 65 9 api_Heard.c g0_.heard r.2.heard :: OwS true 22 1 eW g0_.epochs r.2.epochs :: F) := by
  unfold client_Client_Tick at hm
  refine co_ofN (N := 43) Try.func15 rfl rfl ?_
  refine c_seq ?_
  refine c_reg ?_
  refine r_u (o_as rfl) ?_
  refine r_nil ?_
  refine x_seq ?_
  refine c_seq ?_
  refine c_seq ?_
  refine c_reg ?_
  refine r_u (o_mv rfl) ?_
  refine r_c (s_w (o_call ca20 rfl (client_Client_Ended.ok b0_ a0 g0_ _ rfl))) ?_
  refine r_nil ?_
  refine x_seq ?_
  refine c_if (b := (client_Client_Ended a0)) rfl (fun h3 => ?_) fun h3 => ?_
  · have hm4 := ift hm h3
    clear hm
    refine c_seq ?_
    refine c_reg ?_
    refine r_u (o_as rfl) ?_
    refine r_nil ?_
    refine x_seq ?_
    refine c_ret ?_
    refine ex_st (fun _ h => st_nil (ap := true) (T := 59) (sz := 4) (en := api_Packet.c) h) ?_
    obtain rfl := Option.some.inj hm4
    exact x_r1 rfl (rv_t rfl) (Le.refl _) ⟨_, rfl, (.slice none 0 0), rfl, rfl, rfl⟩
  · have hm4 := iff_ hm h3
    clear hm
    refine c_skip ?_
    refine x_seq ?_
    refine c_seq ?_
    refine c_seq ?_
    refine c_reg ?_
    refine r_u (o_mv rfl) ?_
    refine r_u (o_nc rfl) ?_
    refine r_u (o_fa fa97_6 rfl) ?_
    refine r_u (o_ld 0 sc4 rfl rfl rfl) ?_
    refine r_u (o_not rfl) ?_
    refine r_nil ?_
    refine x_seq ?_
    refine c_if (b := !a0.under) rfl (fun h5 => ?_) fun h5 => ?_
    · have hm6 := ift hm4 h5
      clear hm4
      refine c_seq ?_
      refine c_reg ?_
      refine r_u (o_mv rfl) ?_
      refine r_u (o_mv rfl) ?_
      refine r_u (o_mv rfl) ?_
      refine r_u (o_nc rfl) ?_
      refine r_u (o_fa fa97_6 rfl) ?_
      refine r_u0 (o_st sc4 rfl rfl rfl rfl rfl rfl) ?_
      refine r_u (o_nc rfl) ?_
      refine r_u (o_fa fa97_5 rfl) ?_
      refine r_u0 (o_st sc3 rfl rfl rfl rfl rfl rfl) ?_
      refine r_nil ?_
      refine x_seq ?_
      refine c_seq ?_
      refine c_reg ?_
      refine r_u (o_mv rfl) ?_
      obtain ⟨r7, hr7, hm9⟩ := bs hm6
      clear hm6
      refine r_sw (s_w (o_call ca49 rfl (client_Client_ask.ok b0_ (⟨a0.n, a0.l, a0.at_, a0.to, a0.since, a1, true, a0.heard, a0.epochs⟩ : client_Client) g0_ r7 hr7))) ?_
      rintro v8 R _ _ ⟨_, rfl, rfl, rfl⟩
      refine r_u (o_as rfl) ?_
      refine r_nil ?_
      refine x_seq ?_
      refine c_ret ?_
      obtain rfl := Option.some.inj hm9
      exact x_r1 rfl (rv_t rfl) (Le.refl _) ⟨_, rfl, v8, rfl, rfl, rfl⟩
    · have hm6 := iff_ hm4 h5
      clear hm4
      refine c_skip ?_
      refine x_seq ?_
      refine c_seq ?_
      refine c_seq ?_
      refine c_reg ?_
      refine r_u (o_mv rfl) ?_
      refine r_u (o_nc rfl) ?_
      refine r_u (o_fa fa97_4 rfl) ?_
      refine r_u (o_ld 0 sc3 rfl rfl rfl) ?_
      refine r_u (o_bin rfl rfl (bI_add a0.since 1)) ?_
      refine r_u (o_nc rfl) ?_
      refine r_u (o_fa fa97_4 rfl) ?_
      refine r_u0 (o_st sc3 rfl rfl rfl rfl rfl rfl) ?_
      refine r_nil ?_
      refine x_seq ?_
      refine c_seq ?_
      refine c_reg ?_
      refine r_u (o_mv rfl) ?_
      refine r_u (o_nc rfl) ?_
      refine r_u (o_fa fa97_4 rfl) ?_
      refine r_u (o_ld 0 sc3 rfl rfl rfl) ?_
      refine r_u (o_bin rfl rfl (bI_ge (i64 (a0.since + 1)) 5)) ?_
      refine r_nil ?_
      refine x_seq ?_
      refine c_if (b := decide (5 ≤ (i64 (a0.since + 1)))) rfl (fun h10 => ?_) fun h10 => ?_
      · have hm11 := ift hm6 h10
        clear hm6
        refine c_seq ?_
        refine c_reg ?_
        refine r_u (o_mv rfl) ?_
        refine r_u (o_mv rfl) ?_
        refine r_u (o_nc rfl) ?_
        refine r_u (o_fa fa97_3 rfl) ?_
        refine r_u (o_ld 0 sc3 rfl rfl rfl) ?_
        refine r_u (o_bin rfl rfl (bI_sub 1 a0.to)) ?_
        refine r_u (o_nc rfl) ?_
        refine r_u (o_fa fa97_3 rfl) ?_
        refine r_u0 (o_st sc3 rfl rfl rfl rfl rfl rfl) ?_
        refine r_nil ?_
        refine x_seq ?_
        refine c_seq ?_
        refine c_reg ?_
        refine r_u (o_mv rfl) ?_
        obtain ⟨r12, hr12, hm14⟩ := bs hm11
        clear hm11
        refine r_sw (s_w (o_call ca49 rfl (client_Client_ask.ok b0_ (⟨a0.n, a0.l, a0.at_, i64 (1 - a0.to), i64 (a0.since + 1), a0.began, a0.under, a0.heard, a0.epochs⟩ : client_Client) g0_ r12 hr12))) ?_
        rintro v13 R _ _ ⟨_, rfl, rfl, rfl⟩
        refine r_u (o_as rfl) ?_
        refine r_nil ?_
        refine x_seq ?_
        refine c_ret ?_
        obtain rfl := Option.some.inj hm14
        exact x_r1 rfl (rv_t rfl) (Le.refl _) ⟨_, rfl, v13, rfl, rfl, rfl⟩
      · have hm11 := iff_ hm6 h10
        clear hm6
        refine c_skip ?_
        refine x_seq ?_
        refine c_seq ?_
        refine c_reg ?_
        refine r_u (o_as rfl) ?_
        refine r_nil ?_
        refine x_seq ?_
        refine c_ret ?_
        refine ex_st (fun _ h => st_nil (ap := true) (T := 59) (sz := 4) (en := api_Packet.c) h) ?_
        obtain rfl := Option.some.inj hm11
        exact x_r1 rfl (rv_t rfl) (Le.refl _) ⟨_, rfl, (.slice none 0 0), rfl, rfl, rfl⟩

def hawthornlaw21_view (a0 : Int) : api_View :=
  (⟨3, a0, 1, (-1), 0, 2⟩ : api_View)
theorem hawthornlaw21_view.ok {G R F} (a0 : Int) (r : api_View) (hm : hawthornlaw21_view a0 = r) : CO Try.prog 16 [vI a0] G R (F)
    (Ret fun u R' L' => u = .agg (api_View.c r).toArray ∧ R' = R ∧ L' = F) := by
  unfold hawthornlaw21_view at hm
  refine co_ofN (N := 5) Try.func16 rfl rfl ?_
  refine c_seq ?_
  refine c_reg ?_
  refine r_new (o_al ze24) fun b0 => ?_
  refine r_nil ?_
  refine x_seq ?_
  refine c_seq ?_
  refine c_reg ?_
  refine r_u (o_mv rfl) ?_
  refine r_u (o_bld [vW 3, vI a0, vW 1, vI (-1), vW 0, vW 2] rfl (fun _ => by kernel_rfl)) ?_
  refine r_u0 (o_stn ag24 rfl rfl rfl rfl rfl rfl rfl) ?_
  refine r_nil ?_
  refine x_seq ?_
  refine c_ret ?_
  subst hm
  exact x_d1 rfl (rv_n 0 [vW 3, vI a0, vW 1, vI (-1), vW 0, vW 2] ag24 rfl rfl rfl rfl) (fun _ h => st_pk 1 [] (by decide) h) (Le.refl _) ⟨_, rfl, rfl, rfl, rfl⟩

def hawthornlaw21_told (a0 : Int) (a1 : Int) (a2 : api_Say) : Option api_Packet :=
  (say_Seal a2).bind fun r2 => some (⟨a0, a1, r2.1, false⟩ : api_Packet)
theorem hawthornlaw21_told.ok {G R F} (a0 : Int) (a1 : Int) (a2 : api_Say) (g2_ : api_Say.G) (h2 : api_Say.ro R a2 g2_) (r : api_Packet) (hm : hawthornlaw21_told a0 a1 a2 = some r) : CO Try.prog 18 [vI a0, vI a1, .agg [vI a2.Kind, vW a2.View.V, vI a2.View.Primary, vW a2.View.PLife, vI a2.View.Backup, vW a2.View.BLife, vW a2.View.Epoch, vW a2.Value.V, vI a2.Value.Primary, vW a2.Value.PLife, vI a2.Value.Backup, vW a2.Value.BLife, vW a2.Value.Epoch, vW a2.Ballot, vB a2.Promise.OK, vW a2.Promise.V, vW a2.Promise.Most, vW a2.Promise.Ballot, vW a2.Promise.Value.V, vI a2.Promise.Value.Primary, vW a2.Promise.Value.PLife, vI a2.Promise.Value.Backup, vW a2.Promise.Value.BLife, vW a2.Promise.Value.Epoch, vW a2.Promise.Chosen.V, vI a2.Promise.Chosen.Primary, vW a2.Promise.Chosen.PLife, vI a2.Promise.Chosen.Backup, vW a2.Promise.Chosen.BLife, vW a2.Promise.Chosen.Epoch, vW a2.Seq, vW a2.Done, vW a2.Life, g2_.Records, vI a2.Piece.N, vI a2.Piece.Of, vS a2.Piece.Data, vS a2.Piece.Sum, vS a2.Piece.Whole, vS a2.Digest, g2_.Sums, vW a2.Session, vW a2.Num, vI a2.Op.Kind, vS a2.Op.Key, vS a2.Op.Value, vW a2.Op.TTL, vW a2.Op.Version, vI a2.Reply.E, vS a2.Reply.Value, vW a2.Reply.Version].toArray] G R (F)
    (Ret fun u R' L' => u = .agg (api_Packet.c r).toArray ∧ R' = R ∧ L' = F) := by
  unfold hawthornlaw21_told at hm
  refine co_ofN (N := 18) Try.func18 rfl rfl ?_
  refine c_seq ?_
  refine c_reg ?_
  refine r_new (o_bx [vI a2.Kind, vW a2.View.V, vI a2.View.Primary, vW a2.View.PLife, vI a2.View.Backup, vW a2.View.BLife, vW a2.View.Epoch, vW a2.Value.V, vI a2.Value.Primary, vW a2.Value.PLife, vI a2.Value.Backup, vW a2.Value.BLife, vW a2.Value.Epoch, vW a2.Ballot, vB a2.Promise.OK, vW a2.Promise.V, vW a2.Promise.Most, vW a2.Promise.Ballot, vW a2.Promise.Value.V, vI a2.Promise.Value.Primary, vW a2.Promise.Value.PLife, vI a2.Promise.Value.Backup, vW a2.Promise.Value.BLife, vW a2.Promise.Value.Epoch, vW a2.Promise.Chosen.V, vI a2.Promise.Chosen.Primary, vW a2.Promise.Chosen.PLife, vI a2.Promise.Chosen.Backup, vW a2.Promise.Chosen.BLife, vW a2.Promise.Chosen.Epoch, vW a2.Seq, vW a2.Done, vW a2.Life, g2_.Records, vI a2.Piece.N, vI a2.Piece.Of, vS a2.Piece.Data, vS a2.Piece.Sum, vS a2.Piece.Whole, vS a2.Digest, g2_.Sums, vW a2.Session, vW a2.Num, vI a2.Op.Kind, vS a2.Op.Key, vS a2.Op.Value, vW a2.Op.TTL, vW a2.Op.Version, vI a2.Reply.E, vS a2.Reply.Value, vW a2.Reply.Version] rfl rfl) fun b0 => ?_
  refine r_new (o_al ze59) fun b1 => ?_
  refine r_nil ?_
  refine x_seq ?_
  refine c_seq ?_
  refine c_reg ?_
  refine r_u (o_ldn 1 [vI a2.Kind, vW a2.View.V, vI a2.View.Primary, vW a2.View.PLife, vI a2.View.Backup, vW a2.View.BLife, vW a2.View.Epoch, vW a2.Value.V, vI a2.Value.Primary, vW a2.Value.PLife, vI a2.Value.Backup, vW a2.Value.BLife, vW a2.Value.Epoch, vW a2.Ballot, vB a2.Promise.OK, vW a2.Promise.V, vW a2.Promise.Most, vW a2.Promise.Ballot, vW a2.Promise.Value.V, vI a2.Promise.Value.Primary, vW a2.Promise.Value.PLife, vI a2.Promise.Value.Backup, vW a2.Promise.Value.BLife, vW a2.Promise.Value.Epoch, vW a2.Promise.Chosen.V, vI a2.Promise.Chosen.Primary, vW a2.Promise.Chosen.PLife, vI a2.Promise.Chosen.Backup, vW a2.Promise.Chosen.BLife, vW a2.Promise.Chosen.Epoch, vW a2.Seq, vW a2.Done, vW a2.Life, g2_.Records, vI a2.Piece.N, vI a2.Piece.Of, vS a2.Piece.Data, vS a2.Piece.Sum, vS a2.Piece.Whole, vS a2.Digest, g2_.Sums, vW a2.Session, vW a2.Num, vI a2.Op.Kind, vS a2.Op.Key, vS a2.Op.Value, vW a2.Op.TTL, vW a2.Op.Version, vI a2.Reply.E, vS a2.Reply.Value, vW a2.Reply.Version] ag37 rfl rfl rfl rfl) ?_
  obtain ⟨r2, hr2, hm3⟩ := bs hm
  clear hm
  refine r_u (o_callq ca9 rfl (say_Seal.ok a2 g2_ ⟨h2.1, h2.2⟩ r2 hr2)) ?_
  refine r_u (o_mv rfl) ?_
  refine r_u (o_ext rfl rfl) ?_
  refine r_u (o_ext rfl rfl) ?_
  refine r_u (o_as rfl) ?_
  refine r_u (o_as rfl) ?_
  refine r_nil ?_
  refine x_seq ?_
  refine c_seq ?_
  refine c_reg ?_
  refine r_u (o_mv rfl) ?_
  refine r_u (o_mv rfl) ?_
  refine r_u (o_mv rfl) ?_
  refine r_u (o_bld [vI a0, vI a1, vS r2.1, vB false] rfl (fun _ => by kernel_rfl)) ?_
  refine r_u0 (o_stn ag59 rfl rfl rfl rfl rfl rfl rfl) ?_
  refine r_nil ?_
  refine x_seq ?_
  refine c_ret ?_
  obtain rfl := Option.some.inj hm3
  exact x_d1 rfl (rv_n 0 [vI a0, vI a1, vS r2.1, vB false] ag59 rfl rfl rfl rfl) (fun _ h => st_pk 2 [] (by decide) h) (Le.refl _) ⟨_, rfl, rfl, rfl, rfl⟩

def client_Client_told (a0 : client_Client) (a1 : api_Say) (a2 : Int) : Option client_Client :=
  (apd 80 a0.heard [(⟨a1.Num, a1.View.Epoch, a1.View.V, a1.Seq, a1.Reply, a0.began, a2⟩ : api_Heard)]).bind fun l6 => Option.bind (if ((a0.epochs.length : Int) == 0) then some true else (gi a0.epochs (i64 ((a0.epochs.length : Int) - 1))).bind fun x25 => some (x25 != a1.View.Epoch)) fun p8 => Option.bind (if p8 then (apd 8 a0.epochs [a1.View.Epoch]).bind fun l21 => some l21 else some a0.epochs) fun p12 => some (⟨a0.n, a0.l, i64 (a0.at_ + 1), a0.to, a0.since, a0.began, false, l6, p12⟩ : client_Client)
theorem client_Client_told.ok {G R F} (b0_ : Nat) (a0 : client_Client) (g0_ : client_Client.G) (a1 : api_Say) (g1_ : api_Say.G) (h1 : api_Say.ro R a1 g1_) (a2 : Int) (r : client_Client) (hm : client_Client_told a0 a1 a2 = some r) : CO Try.prog 50 [pt b0_ 0, .agg [vI a1.Kind, vW a1.View.V, vI a1.View.Primary, vW a1.View.PLife, vI a1.View.Backup, vW a1.View.BLife, vW a1.View.Epoch, vW a1.Value.V, vI a1.Value.Primary, vW a1.Value.PLife, vI a1.Value.Backup, vW a1.Value.BLife, vW a1.Value.Epoch, vW a1.Ballot, vB a1.Promise.OK, vW a1.Promise.V, vW a1.Promise.Most, vW a1.Promise.Ballot, vW a1.Promise.Value.V, vI a1.Promise.Value.Primary, vW a1.Promise.Value.PLife, vI a1.Promise.Value.Backup, vW a1.Promise.Value.BLife, vW a1.Promise.Value.Epoch, vW a1.Promise.Chosen.V, vI a1.Promise.Chosen.Primary, vW a1.Promise.Chosen.PLife, vI a1.Promise.Chosen.Backup, vW a1.Promise.Chosen.BLife, vW a1.Promise.Chosen.Epoch, vW a1.Seq, vW a1.Done, vW a1.Life, g1_.Records, vI a1.Piece.N, vI a1.Piece.Of, vS a1.Piece.Data, vS a1.Piece.Sum, vS a1.Piece.Whole, vS a1.Digest, g1_.Sums, vW a1.Session, vW a1.Num, vI a1.Op.Kind, vS a1.Op.Key, vS a1.Op.Value, vW a1.Op.TTL, vW a1.Op.Version, vI a1.Reply.E, vS a1.Reply.Value, vW a1.Reply.Version].toArray, vI a2] G R (Bk b0_ 97 [vI a0.n, g0_.l, vI a0.at_, vI a0.to, vI a0.since, vI a0.began, vB a0.under, g0_.heard, g0_.epochs] :: OwS true 32 5 api_Op.c g0_.l a0.l :: OwS true 65 9 api_Heard.c g0_.heard a0.heard :: OwS true 22 1 eW g0_.epochs a0.epochs :: F)
    (Ret fun u R' L' => ∃ (q0 : client_Client.G), u = .tuple #[] ∧ R' = R ∧ L' = Bk b0_ 97 [vI r.n, q0.l, vI r.at_, vI r.to, vI r.since, vI r.began, vB r.under, q0.heard, q0.epochs] :: OwS true 32 5 api_Op.c q0.l r.l :: OwS true 65 9 api_Heard.c q0.heard r.heard :: OwS true 22 1 eW q0.epochs r.epochs :: F) := by
  unfold client_Client_told at hm
  refine co_ofN (N := 77) Try.func50 rfl rfl ?_
  refine c_seq ?_
  refine c_reg ?_
  refine r_new (o_bx [vI a1.Kind, vW a1.View.V, vI a1.View.Primary, vW a1.View.PLife, vI a1.View.Backup, vW a1.View.BLife, vW a1.View.Epoch, vW a1.Value.V, vI a1.Value.Primary, vW a1.Value.PLife, vI a1.Value.Backup, vW a1.Value.BLife, vW a1.Value.Epoch, vW a1.Ballot, vB a1.Promise.OK, vW a1.Promise.V, vW a1.Promise.Most, vW a1.Promise.Ballot, vW a1.Promise.Value.V, vI a1.Promise.Value.Primary, vW a1.Promise.Value.PLife, vI a1.Promise.Value.Backup, vW a1.Promise.Value.BLife, vW a1.Promise.Value.Epoch, vW a1.Promise.Chosen.V, vI a1.Promise.Chosen.Primary, vW a1.Promise.Chosen.PLife, vI a1.Promise.Chosen.Backup, vW a1.Promise.Chosen.BLife, vW a1.Promise.Chosen.Epoch, vW a1.Seq, vW a1.Done, vW a1.Life, g1_.Records, vI a1.Piece.N, vI a1.Piece.Of, vS a1.Piece.Data, vS a1.Piece.Sum, vS a1.Piece.Whole, vS a1.Digest, g1_.Sums, vW a1.Session, vW a1.Num, vI a1.Op.Kind, vS a1.Op.Key, vS a1.Op.Value, vW a1.Op.TTL, vW a1.Op.Version, vI a1.Reply.E, vS a1.Reply.Value, vW a1.Reply.Version] rfl rfl) fun b3 => ?_
  refine r_nil ?_
  refine x_seq ?_
  refine c_seq ?_
  obtain ⟨l6, hl6, hm7⟩ := bs hm
  clear hm
  refine c_any mixed (effs := [23, 24, 27]) (V := []) ?_
  refine stage_ext [(0, pt b0_ 0), (1, pt b0_ 0), (2, pt b0_ 0), (3, pt b0_ 7), (4, g0_.heard), (5, pt b3 42), (6, vW a1.Num), (7, pt b3 1), (8, pt b3 6), (9, vW a1.View.Epoch), (10, pt b3 1), (11, pt b3 1), (12, vW a1.View.V), (13, pt b3 30), (14, vW a1.Seq), (15, pt b3 48), (16, .agg (api_Reply.c a1.Reply).toArray), (17, pt b0_ 0), (18, pt b0_ 0), (19, pt b0_ 5), (20, vI a0.began), (21, vI a2), (22, .agg [vW a1.Num, vW a1.View.Epoch, vW a1.View.V, vW a1.Seq, vI a1.Reply.E, vS a1.Reply.Value, vW a1.Reply.Version, vI a0.began, vI a2].toArray)] rfl ?_
  refine stage rfl rfl rfl rfl [0, 0, 2, 6, 14, 0, 32, 0, 128, 384, 0, 1024, 3072, 0, 8192, 0, 32768, 0, 131072, 393216, 917504, 0, 4194272, 8388576, 16777214, 33554431, 67108863, 134217727] [0, 1, 2, 3, 4, 5, 6, 7, 8, 9, 10, 11, 12, 13, 14, 15, 16, 17, 18, 19, 20, 21, 22] [23] rfl rfl rfl (qc rfl rfl (s_u (o_mv rfl)) (qc rfl rfl (s_u (o_mv rfl)) (qc rfl rfl (s_u (o_nc rfl)) (qc rfl rfl (s_u (o_fa fa97_7 rfl)) (qc rfl rfl (s_u (o_ld 1 sc62 rfl rfl rfl)) (qc rfl rfl (s_u (o_fa fa37_13 rfl)) (qc rfl rfl (s_u (o_ld 0 sc22 rfl rfl rfl)) (qc rfl rfl (s_u (o_fa fa37_1 rfl)) (qc rfl rfl (s_u (o_fa fa24_5 rfl)) (qc rfl rfl (s_u (o_ld 0 sc22 rfl rfl rfl)) (qc rfl rfl (s_u (o_fa fa37_1 rfl)) (qc rfl rfl (s_u (o_fa fa24_0 rfl)) (qc rfl rfl (s_u (o_ld 0 sc22 rfl rfl rfl)) (qc rfl rfl (s_u (o_fa fa37_5 rfl)) (qc rfl rfl (s_u (o_ld 0 sc22 rfl rfl rfl)) (qc rfl rfl (s_u (o_fa fa37_15 rfl)) (qc rfl rfl (s_u (o_ldn 0 (api_Reply.c a1.Reply) ag35 rfl rfl rfl rfl)) (qc rfl rfl (s_u (o_mv rfl)) (qc rfl rfl (s_u (o_nc rfl)) (qc rfl rfl (s_u (o_fa fa97_5 rfl)) (qc rfl rfl (s_u (o_ld 1 sc3 rfl rfl rfl)) (qc rfl rfl (s_u (o_mv rfl)) (qc rfl rfl (s_u (o_bld [vW a1.Num, vW a1.View.Epoch, vW a1.View.V, vW a1.Seq, vI a1.Reply.E, vS a1.Reply.Value, vW a1.Reply.Version, vI a0.began, vI a2] rfl (fun _ => by kernel_rfl))) qn))))))))))))))))))))))) ?_ (fun h => absurd h (by decide))
  refine ec (eo_w rfl (s_w (o_bsl (en := api_Heard.c) (sz := 9) (e := 65) (cs := [vW a1.Num, vW a1.View.Epoch, vW a1.View.V, vW a1.Seq, vI a1.Reply.E, vS a1.Reply.Value, vW a1.Reply.Version, vI a0.began, vI a2]) (r := [(⟨a1.Num, a1.View.Epoch, a1.View.V, a1.Seq, a1.Reply, a0.began, a2⟩ : api_Heard)]) rfl (fun _ => by kernel_rfl) rfl (by decide) rfl (fun _ => rfl))) ?_) en
  rintro v4 R _ _ ⟨rfl, rfl⟩
  refine stage_st (fun _ h => st_pk 6 [4, 0, 1, 2, 3, 5] (by decide) h) ?_
  refine stage rfl rfl rfl rfl [0, 0, 2, 6, 14, 0, 32, 0, 128, 384, 0, 1024, 3072, 0, 8192, 0, 32768, 0, 131072, 393216, 917504, 0, 4194272, 8388576, 16777214, 33554431, 67108863, 134217727] [0, 1, 2, 3, 4] [24] rfl rfl rfl (qc rfl rfl (s_u (o_mv rfl)) (qc rfl rfl (s_u (o_mv rfl)) (qc rfl rfl (s_u (o_nc rfl)) (qc rfl rfl (s_u (o_fa fa97_7 rfl)) (qc rfl rfl (s_u (o_ld 3 sc62 rfl rfl rfl)) qn))))) ?_ (fun h => absurd h (by decide))
  refine ec (eo_w rfl (s_w (o_ap (sz := 9) (bytes := 80) 0 Try.underlying62 rfl rfl rfl rfl rfl (by decide) (by decide) (fun _ _ _ h => by simp [api_Heard.c] at h; rcases h with rfl | rfl | rfl | rfl | rfl | rfl | rfl | rfl | rfl <;> rfl) (fun _ => rfl) rfl rfl rfl rfl (Nat.succ_pos _) hl6)) ?_) en
  rintro v5 R _ _ ⟨rfl, rfl⟩
  refine stage_st (fun _ h => st_pk 6 [3, 0, 1, 2, 4, 5] (by decide) h) ?_
  refine stage_ext [(25, pt b0_ 0), (26, pt b0_ 7)] rfl ?_
  refine stage rfl rfl rfl rfl [0, 0, 2, 6, 14, 0, 32, 0, 128, 384, 0, 1024, 3072, 0, 8192, 0, 32768, 0, 131072, 393216, 917504, 0, 4194272, 8388576, 16777214, 33554431, 67108863, 134217727] [0, 25, 26] [27] rfl rfl rfl (qc rfl rfl (s_u (o_mv rfl)) (qc rfl rfl (s_u (o_nc rfl)) (qc rfl rfl (s_u (o_fa fa97_7 rfl)) qn))) ?_ (fun h => absurd h (by decide))
  refine ec (eo_u rfl (s_u (ou_if (one_o 1 rfl) fun ho0 => o_st sc62 rfl rfl rfl ho0 rfl rfl)) (Le.refl _) ?_) en
  refine stage rfl rfl rfl rfl [0, 0, 2, 6, 14, 0, 32, 0, 128, 384, 0, 1024, 3072, 0, 8192, 0, 32768, 0, 131072, 393216, 917504, 0, 4194272, 8388576, 16777214, 33554431, 67108863, 134217727] [] [] rfl rfl rfl qn en ?_
  intro _
  refine ex_sub (E' := [(0, pt b0_ 0), (4, pt b3 0)]) ⟨rfl, rfl, trivial⟩ ?_
  refine x_seq ?_
  refine c_seq ?_
  refine c_seq ?_
  refine c_reg ?_
  refine r_u (o_mv rfl) ?_
  refine r_u (o_nc rfl) ?_
  refine r_u (o_fa fa97_8 rfl) ?_
  refine r_u (o_ld 0 sc67 rfl rfl rfl) ?_
  refine r_u (o_lenO 5 Try.underlying67 rfl rfl) ?_
  refine r_u (o_as rfl) ?_
  refine r_nil ?_
  refine x_seq ?_
  refine c_seq ?_
  obtain ⟨p8, hp9, hm10⟩ := bs hm7
  refine cd_join (E' := [(0, pt b0_ 0), (4, pt b3 0), (54, vB p8)]) (L' := Bk b0_ 97 [vI a0.n, g0_.l, vI a0.at_, vI a0.to, vI a0.since, vI a0.began, vB a0.under, v5, g0_.epochs] :: Bk b3 37 [vI a1.Kind, vW a1.View.V, vI a1.View.Primary, vW a1.View.PLife, vI a1.View.Backup, vW a1.View.BLife, vW a1.View.Epoch, vW a1.Value.V, vI a1.Value.Primary, vW a1.Value.PLife, vI a1.Value.Backup, vW a1.Value.BLife, vW a1.Value.Epoch, vW a1.Ballot, vB a1.Promise.OK, vW a1.Promise.V, vW a1.Promise.Most, vW a1.Promise.Ballot, vW a1.Promise.Value.V, vI a1.Promise.Value.Primary, vW a1.Promise.Value.PLife, vI a1.Promise.Value.Backup, vW a1.Promise.Value.BLife, vW a1.Promise.Value.Epoch, vW a1.Promise.Chosen.V, vI a1.Promise.Chosen.Primary, vW a1.Promise.Chosen.PLife, vI a1.Promise.Chosen.Backup, vW a1.Promise.Chosen.BLife, vW a1.Promise.Chosen.Epoch, vW a1.Seq, vW a1.Done, vW a1.Life, g1_.Records, vI a1.Piece.N, vI a1.Piece.Of, vS a1.Piece.Data, vS a1.Piece.Sum, vS a1.Piece.Whole, vS a1.Digest, g1_.Sums, vW a1.Session, vW a1.Num, vI a1.Op.Kind, vS a1.Op.Key, vS a1.Op.Value, vW a1.Op.TTL, vW a1.Op.Version, vI a1.Reply.E, vS a1.Reply.Value, vW a1.Reply.Version] :: OwS true 65 9 api_Heard.c v5 l6 :: OwS true 65 9 api_Heard.c v4 [(⟨a1.Num, a1.View.Epoch, a1.View.V, a1.Seq, a1.Reply, a0.began, a2⟩ : api_Heard)] :: OwS true 32 5 api_Op.c g0_.l a0.l :: OwS true 22 1 eW g0_.epochs a0.epochs :: F) ?_ fun K11 => ?_
  · refine x_seq ?_
    obtain ⟨p12, hp14, hm15⟩ := bs hm10
    refine cd_cut (fun x ks => ∀ (g13 : Value), EX x .normal ks [(0, pt b0_ 0)] R (Bk b0_ 97 [vI a0.n, g0_.l, vI a0.at_, vI a0.to, vI a0.since, vI a0.began, vB a0.under, v5, g13] :: Bk b3 37 [vI a1.Kind, vW a1.View.V, vI a1.View.Primary, vW a1.View.PLife, vI a1.View.Backup, vW a1.View.BLife, vW a1.View.Epoch, vW a1.Value.V, vI a1.Value.Primary, vW a1.Value.PLife, vI a1.Value.Backup, vW a1.Value.BLife, vW a1.Value.Epoch, vW a1.Ballot, vB a1.Promise.OK, vW a1.Promise.V, vW a1.Promise.Most, vW a1.Promise.Ballot, vW a1.Promise.Value.V, vI a1.Promise.Value.Primary, vW a1.Promise.Value.PLife, vI a1.Promise.Value.Backup, vW a1.Promise.Value.BLife, vW a1.Promise.Value.Epoch, vW a1.Promise.Chosen.V, vI a1.Promise.Chosen.Primary, vW a1.Promise.Chosen.PLife, vI a1.Promise.Chosen.Backup, vW a1.Promise.Chosen.BLife, vW a1.Promise.Chosen.Epoch, vW a1.Seq, vW a1.Done, vW a1.Life, g1_.Records, vI a1.Piece.N, vI a1.Piece.Of, vS a1.Piece.Data, vS a1.Piece.Sum, vS a1.Piece.Whole, vS a1.Digest, g1_.Sums, vW a1.Session, vW a1.Num, vI a1.Op.Kind, vS a1.Op.Key, vS a1.Op.Value, vW a1.Op.TTL, vW a1.Op.Version, vI a1.Reply.E, vS a1.Reply.Value, vW a1.Reply.Version] :: OwS true 65 9 api_Heard.c v5 l6 :: OwS true 65 9 api_Heard.c v4 [(⟨a1.Num, a1.View.Epoch, a1.View.V, a1.Seq, a1.Reply, a0.began, a2⟩ : api_Heard)] :: OwS true 32 5 api_Op.c g0_.l a0.l :: OwS true 22 1 eW g13 p12 :: F)) ?_ fun K16 => ?_
    · intro g13
      refine x_seq ?_
      refine c_seq ?_
      refine c_reg ?_
      refine r_u (o_mv rfl) ?_
      refine r_u (o_nc rfl) ?_
      refine r_u (o_fa fa97_2 rfl) ?_
      refine r_u (o_ld 0 sc3 rfl rfl rfl) ?_
      refine r_u (o_bin rfl rfl (bI_add a0.at_ 1)) ?_
      refine r_u (o_nc rfl) ?_
      refine r_u (o_fa fa97_2 rfl) ?_
      refine r_u0 (o_st sc3 rfl rfl rfl rfl rfl rfl) ?_
      refine r_nil ?_
      refine x_seq ?_
      refine c_reg ?_
      refine r_u (o_mv rfl) ?_
      refine r_u (o_nc rfl) ?_
      refine r_u (o_fa fa97_6 rfl) ?_
      refine r_u0 (o_st sc4 rfl rfl rfl rfl rfl rfl) ?_
      refine r_nil ?_
      refine x_end ?_
      obtain rfl := Option.some.inj hm15
      refine ex_st (fun _ h => st_pk 6 [0, 4, 2, 5] (by decide) h) ?_
      exact x_r0 rfl (Le.refl _) ⟨_, rfl, (⟨g0_.l, v5, g13⟩ : client_Client.G), rfl, rfl, rfl⟩
    · refine c_if (b := p8) rfl (fun h17 => ?_) fun h17 => ?_
      · have hm18 := ift hp14 h17
        clear hp14
        obtain ⟨l21, hl21, hm22⟩ := bs hm18
        clear hm18
        refine c_any mixed (effs := [8, 9, 12]) (V := []) ?_
        refine stage_ext [(0, pt b0_ 0), (1, pt b0_ 0), (2, pt b0_ 0), (3, pt b0_ 8), (4, g0_.epochs), (5, pt b3 1), (6, pt b3 6), (7, vW a1.View.Epoch)] rfl ?_
        refine stage rfl rfl rfl rfl [0, 0, 2, 6, 14, 0, 32, 96, 224, 510, 1023, 2047, 4095] [0, 1, 2, 3, 4, 5, 6, 7] [8] rfl rfl rfl (qc rfl rfl (s_u (o_mv rfl)) (qc rfl rfl (s_u (o_mv rfl)) (qc rfl rfl (s_u (o_nc rfl)) (qc rfl rfl (s_u (o_fa fa97_8 rfl)) (qc rfl rfl (s_u (o_ld 0 sc67 rfl rfl rfl)) (qc rfl rfl (s_u (o_fa fa37_1 rfl)) (qc rfl rfl (s_u (o_fa fa24_5 rfl)) (qc rfl rfl (s_u (o_ld 1 sc22 rfl rfl rfl)) qn)))))))) ?_ (fun h => absurd h (by decide))
        refine ec (eo_w rfl (s_w (o_bsl (en := eW) (sz := 1) (e := 22) (cs := [vW a1.View.Epoch]) (r := [a1.View.Epoch]) rfl (fun _ => by kernel_rfl) rfl (by decide) rfl (fun _ => rfl))) ?_) en
        rintro v19 R _ _ ⟨rfl, rfl⟩
        refine stage_st (fun _ h => st_pk 7 [6, 0, 1, 2, 3, 4, 5] (by decide) h) ?_
        refine stage rfl rfl rfl rfl [0, 0, 2, 6, 14, 0, 32, 96, 224, 510, 1023, 2047, 4095] [0, 1, 2, 3, 4] [9] rfl rfl rfl (qc rfl rfl (s_u (o_mv rfl)) (qc rfl rfl (s_u (o_mv rfl)) (qc rfl rfl (s_u (o_nc rfl)) (qc rfl rfl (s_u (o_fa fa97_8 rfl)) (qc rfl rfl (s_u (o_ld 2 sc67 rfl rfl rfl)) qn))))) ?_ (fun h => absurd h (by decide))
        refine ec (eo_w rfl (s_w (o_ap (sz := 1) (bytes := 8) 0 Try.underlying67 rfl rfl rfl rfl rfl (by decide) (by decide) (fun _ _ _ h => by simp at h; subst h; rfl) (fun _ => rfl) rfl rfl rfl rfl (Nat.succ_pos _) hl21)) ?_) en
        rintro v20 R _ _ ⟨rfl, rfl⟩
        refine stage_st (fun _ h => st_pk 7 [2, 0, 1, 3, 4, 5, 6] (by decide) h) ?_
        refine stage_ext [(10, pt b0_ 0), (11, pt b0_ 8)] rfl ?_
        refine stage rfl rfl rfl rfl [0, 0, 2, 6, 14, 0, 32, 96, 224, 510, 1023, 2047, 4095] [0, 10, 11] [12] rfl rfl rfl (qc rfl rfl (s_u (o_mv rfl)) (qc rfl rfl (s_u (o_nc rfl)) (qc rfl rfl (s_u (o_fa fa97_8 rfl)) qn))) ?_ (fun h => absurd h (by decide))
        refine ec (eo_u rfl (s_u (ou_if (one_o 1 rfl) fun ho0 => o_st sc67 rfl rfl rfl ho0 rfl rfl)) (Le.refl _) ?_) en
        refine stage rfl rfl rfl rfl [0, 0, 2, 6, 14, 0, 32, 96, 224, 510, 1023, 2047, 4095] [] [] rfl rfl rfl qn en ?_
        intro _
        refine ex_sub (E' := [(0, pt b0_ 0)]) ⟨rfl, trivial⟩ ?_
        obtain rfl := Option.some.inj hm22
        exact x_sub (K16 v20) ⟨rfl, trivial⟩ (fun _ h => st_pk 7 [0, 3, 4, 5, 6, 1] (by decide) h)
      · have hm18 := iff_ hp14 h17
        clear hp14
        refine c_skip ?_
        obtain rfl := Option.some.inj hm18
        exact x_sub (K16 g0_.epochs) ⟨rfl, trivial⟩ (fun _ h => st_pk 6 [0, 1, 2, 3, 4, 5] (by decide) h)
  · refine cd_by ((a0.epochs.length : Int) == 0) (fun h23 => ?_) fun h23 => ?_
    · have hm24 := ift hp9 h23
      clear hp9
      refine c_any mixed (effs := []) (V := []) ?_
      refine stage_ext [(0, vI (a0.epochs.length : Int)), (1, vB ((a0.epochs.length : Int) == 0)), (2, vB ((a0.epochs.length : Int) == 0)), (3, undef), (4, undef), (5, undef), (6, undef), (7, undef), (8, undef), (9, undef), (10, undef), (11, undef), (12, undef), (13, undef), (14, undef), (15, vB true)] rfl ?_
      refine stage rfl rfl rfl rfl [0, 1, 3, 7, 15, 31, 63, 7, 135, 511, 1023, 7, 2055, 6151, 16383, 32767] [0, 1, 2, 3, 4, 5, 6, 7, 8, 9, 10, 11, 12, 13, 14, 15] [] rfl rfl rfl (qc rfl rfl (s_u (o_mv rfl)) (qc rfl rfl (s_u (o_bin rfl rfl (bI_eq (a0.epochs.length : Int) 0))) (qc rfl rfl (s_u (o_mv rfl)) (qc rfl rfl (s_n rfl rfl h23) (qc rfl rfl (s_n rfl rfl h23) (qc rfl rfl (s_n rfl rfl h23) (qc rfl rfl (s_n rfl rfl h23) (qc rfl rfl (s_n rfl rfl h23) (qc rfl rfl (s_n rfl rfl h23) (qc rfl rfl (s_n rfl rfl h23) (qc rfl rfl (s_n rfl rfl h23) (qc rfl rfl (s_n rfl rfl h23) (qc rfl rfl (s_n rfl rfl h23) (qc rfl rfl (s_n rfl rfl h23) (qc rfl rfl (s_n rfl rfl h23) (qc rfl rfl (s_u (o_pt rfl h23 rfl)) qn)))))))))))))))) en ?_
      intro _
      refine ex_sub (E' := [(0, pt b0_ 0), (4, pt b3 0), (54, vB true)]) ⟨rfl, rfl, rfl, trivial⟩ ?_
      obtain rfl := Option.some.inj hm24
      exact x_sub K11 ⟨rfl, rfl, rfl, trivial⟩ (fun _ h => st_pk 6 [0, 3, 1, 2, 4, 5] (by decide) h)
    · have hm24 := iff_ hp9 h23
      clear hp9
      obtain ⟨x25, hx25, hm26⟩ := bs hm24
      clear hm24
      refine c_any mixed (effs := []) (V := []) ?_
      refine stage_ext [(0, vI (a0.epochs.length : Int)), (1, vB ((a0.epochs.length : Int) == 0)), (2, vB ((a0.epochs.length : Int) == 0)), (3, pt b0_ 0), (4, pt b0_ 0), (5, pt b0_ 8), (6, g0_.epochs), (7, vI (a0.epochs.length : Int)), (8, vI (i64 ((a0.epochs.length : Int) - 1))), (9, pt (sb g0_.epochs) (so g0_.epochs + (i64 ((a0.epochs.length : Int) - 1)).toNat * 1)), (10, vW x25), (11, pt b3 1), (12, pt b3 6), (13, vW a1.View.Epoch), (14, vB (x25 != a1.View.Epoch)), (15, vB (x25 != a1.View.Epoch))] rfl ?_
      refine stage rfl rfl rfl rfl [0, 1, 3, 7, 15, 31, 63, 7, 135, 511, 1023, 7, 2055, 6151, 16383, 32767] [0, 1, 2, 3, 4, 5, 6, 7, 8, 9, 10, 11, 12, 13, 14, 15] [] rfl rfl rfl (qc rfl rfl (s_u (o_mv rfl)) (qc rfl rfl (s_u (o_bin rfl rfl (bI_eq (a0.epochs.length : Int) 0))) (qc rfl rfl (s_u (o_mv rfl)) (qc rfl rfl (s_y rfl rfl h23 (o_mv rfl)) (qc rfl rfl (s_y rfl rfl h23 (o_nc rfl)) (qc rfl rfl (s_y rfl rfl h23 (o_fa fa97_8 rfl)) (qc rfl rfl (s_y rfl rfl h23 (o_ld 0 sc67 rfl rfl rfl)) (qc rfl rfl (s_y rfl rfl h23 (o_mv rfl)) (qc rfl rfl (s_y rfl rfl h23 (o_bin rfl rfl (bI_sub (a0.epochs.length : Int) 1))) (qc rfl rfl (s_y rfl rfl h23 (o_ixO 5 Try.underlying67 (fun _ => by kernel_rfl) rfl rfl rfl hx25)) (qc rfl rfl (s_y rfl rfl h23 (o_ldO0 5 sc22 rfl rfl hx25 rfl rfl)) (qc rfl rfl (s_y rfl rfl h23 (o_fa fa37_1 rfl)) (qc rfl rfl (s_y rfl rfl h23 (o_fa fa24_5 rfl)) (qc rfl rfl (s_y rfl rfl h23 (o_ld 3 sc22 rfl rfl rfl)) (qc rfl rfl (s_y rfl rfl h23 (o_bin rfl rfl (bW_ne x25 a1.View.Epoch))) (qc rfl rfl (s_u (o_pf rfl h23 rfl)) qn)))))))))))))))) en ?_
      intro _
      refine ex_sub (E' := [(0, pt b0_ 0), (4, pt b3 0), (54, vB (x25 != a1.View.Epoch))]) ⟨rfl, rfl, rfl, trivial⟩ ?_
      obtain rfl := Option.some.inj hm26
      exact x_sub K11 ⟨rfl, rfl, rfl, trivial⟩ (fun _ h => st_pk 6 [0, 3, 1, 2, 4, 5] (by decide) h)

end Go.Proofs.Ythngfieikhillaa
