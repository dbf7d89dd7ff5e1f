import Derived.Test.YthngfieikhillaaW2
import Derived.Test.YthngfieikhillaaFacts
import Derived.Test.YthngfieikhillaaHwU
set_option linter.unusedVariables false
set_option linter.unusedSectionVars false
set_option linter.unusedSimpArgs false
set_option maxRecDepth 100000
set_option maxHeartbeats 8000000
namespace Go.Proofs.Ythngfieikhillaa
open Go Go.Proofs.Ythngfieikhillaa.Hw
def say_Get_1 (a0 : wire_Reader) (a1 : api_Say) : Option ((wire_Reader × api_Say) ⊕ (Int × (wire_Reader × api_Say))) :=
  (say_take a0).bind fun r2 => sm r2 (fun (ra4 : api_Say × wire_Reader) => some (Sum.inl (ra4.2, ra4.1))) fun ((rn5, ro6) : Int × wire_Reader) => some (Sum.inr (rn5, (ro6, a1)))
theorem say_Get_1.ok {G R F} (b0_ : Nat) (a0 : wire_Reader) (b1_ : Nat) (a1 : api_Say) (g1_ : api_Say.G) (r : (wire_Reader × api_Say) ⊕ (Int × (wire_Reader × api_Say))) (hm : say_Get_1 a0 a1 = some r) : CO Try.prog 37 [pt b0_ 0, pt b1_ 0] G R (Bk b0_ 114 (wire_Reader.c a0) :: Bk b1_ 37 [vI a1.Kind, vW a1.View.V, vI a1.View.Primary, vW a1.View.PLife, vI a1.View.Backup, vW a1.View.BLife, vW a1.View.Epoch, vW a1.Value.V, vI a1.Value.Primary, vW a1.Value.PLife, vI a1.Value.Backup, vW a1.Value.BLife, vW a1.Value.Epoch, vW a1.Ballot, vB a1.Promise.OK, vW a1.Promise.V, vW a1.Promise.Most, vW a1.Promise.Ballot, vW a1.Promise.Value.V, vI a1.Promise.Value.Primary, vW a1.Promise.Value.PLife, vI a1.Promise.Value.Backup, vW a1.Promise.Value.BLife, vW a1.Promise.Value.Epoch, vW a1.Promise.Chosen.V, vI a1.Promise.Chosen.Primary, vW a1.Promise.Chosen.PLife, vI a1.Promise.Chosen.Backup, vW a1.Promise.Chosen.BLife, vW a1.Promise.Chosen.Epoch, vW a1.Seq, vW a1.Done, vW a1.Life, g1_.Records, vI a1.Piece.N, vI a1.Piece.Of, vS a1.Piece.Data, vS a1.Piece.Sum, vS a1.Piece.Whole, vS a1.Digest, g1_.Sums, vW a1.Session, vW a1.Num, vI a1.Op.Kind, vS a1.Op.Key, vS a1.Op.Value, vW a1.Op.TTL, vW a1.Op.Version, vI a1.Reply.E, vS a1.Reply.Value, vW a1.Reply.Version] :: OwS true 89 9 api_Record.c g1_.Records a1.Records :: OwS true 9 1 eS g1_.Sums a1.Sums :: F)
    (PK 112 r (fun (a : wire_Reader × api_Say) u R' L' => ∃ (q1 : api_Say.G), u = .tuple #[] ∧ R' = R ∧ L' = Bk b0_ 114 (wire_Reader.c a.1) :: Bk b1_ 37 [vI a.2.Kind, vW a.2.View.V, vI a.2.View.Primary, vW a.2.View.PLife, vI a.2.View.Backup, vW a.2.View.BLife, vW a.2.View.Epoch, vW a.2.Value.V, vI a.2.Value.Primary, vW a.2.Value.PLife, vI a.2.Value.Backup, vW a.2.Value.BLife, vW a.2.Value.Epoch, vW a.2.Ballot, vB a.2.Promise.OK, vW a.2.Promise.V, vW a.2.Promise.Most, vW a.2.Promise.Ballot, vW a.2.Promise.Value.V, vI a.2.Promise.Value.Primary, vW a.2.Promise.Value.PLife, vI a.2.Promise.Value.Backup, vW a.2.Promise.Value.BLife, vW a.2.Promise.Value.Epoch, vW a.2.Promise.Chosen.V, vI a.2.Promise.Chosen.Primary, vW a.2.Promise.Chosen.PLife, vI a.2.Promise.Chosen.Backup, vW a.2.Promise.Chosen.BLife, vW a.2.Promise.Chosen.Epoch, vW a.2.Seq, vW a.2.Done, vW a.2.Life, q1.Records, vI a.2.Piece.N, vI a.2.Piece.Of, vS a.2.Piece.Data, vS a.2.Piece.Sum, vS a.2.Piece.Whole, vS a.2.Digest, q1.Sums, vW a.2.Session, vW a.2.Num, vI a.2.Op.Kind, vS a.2.Op.Key, vS a.2.Op.Value, vW a.2.Op.TTL, vW a.2.Op.Version, vI a.2.Reply.E, vS a.2.Reply.Value, vW a.2.Reply.Version] :: OwS true 89 9 api_Record.c q1.Records a.2.Records :: OwS true 9 1 eS q1.Sums a.2.Sums :: F) (fun n (o : wire_Reader × api_Say) R' L' => ∃ (q1 : api_Say.G), R' = R ∧ L' = Bk b0_ 114 (wire_Reader.c o.1) :: Bk b1_ 37 [vI o.2.Kind, vW o.2.View.V, vI o.2.View.Primary, vW o.2.View.PLife, vI o.2.View.Backup, vW o.2.View.BLife, vW o.2.View.Epoch, vW o.2.Value.V, vI o.2.Value.Primary, vW o.2.Value.PLife, vI o.2.Value.Backup, vW o.2.Value.BLife, vW o.2.Value.Epoch, vW o.2.Ballot, vB o.2.Promise.OK, vW o.2.Promise.V, vW o.2.Promise.Most, vW o.2.Promise.Ballot, vW o.2.Promise.Value.V, vI o.2.Promise.Value.Primary, vW o.2.Promise.Value.PLife, vI o.2.Promise.Value.Backup, vW o.2.Promise.Value.BLife, vW o.2.Promise.Value.Epoch, vW o.2.Promise.Chosen.V, vI o.2.Promise.Chosen.Primary, vW o.2.Promise.Chosen.PLife, vI o.2.Promise.Chosen.Backup, vW o.2.Promise.Chosen.BLife, vW o.2.Promise.Chosen.Epoch, vW o.2.Seq, vW o.2.Done, vW o.2.Life, q1.Records, vI o.2.Piece.N, vI o.2.Piece.Of, vS o.2.Piece.Data, vS o.2.Piece.Sum, vS o.2.Piece.Whole, vS o.2.Digest, q1.Sums, vW o.2.Session, vW o.2.Num, vI o.2.Op.Kind, vS o.2.Op.Key, vS o.2.Op.Value, vW o.2.Op.TTL, vW o.2.Op.Version, vI o.2.Reply.E, vS o.2.Reply.Value, vW o.2.Reply.Version] :: OwS true 89 9 api_Record.c q1.Records o.2.Records :: OwS true 9 1 eS q1.Sums o.2.Sums :: F)) := by
  unfold say_Get_1 at hm
  refine co_ofN (N := 5) Try.func37 rfl rfl ?_
  obtain ⟨r2, hr2, hm3⟩ := bs hm
  clear hm
  rcases r2 with ra4 | ⟨rn5, ro6⟩
  · have hm7 := sm_l hm3
    clear hm3
    refine c_reg ?_
    refine r_u (o_mv rfl) ?_
    refine r_sw (s_w (o_callL ca38 rfl (say_take.ok b0_ a0 (Sum.inl ra4) hr2) (fun _ _ _ h => h))) ?_
    rintro _ R _ _ ⟨v8, rfl, rfl, rfl⟩
    refine rl_st (fun _ h => st_pk 6 [3, 0, 1, 2, 4, 5] (by decide) h) ?_
    refine r_u0 (ou_if (one_o 1 rfl) fun ho0 => ou_if (one_o 2 rfl) fun ho1 => o_stn ag37 rfl rfl rfl (al_c rfl (al_c rfl (al_c rfl (al_c rfl (al_c rfl (al_c rfl (al_c rfl (al_c rfl (al_c rfl (al_c rfl (al_c rfl (al_c rfl (al_c rfl (al_c rfl (al_c rfl (al_c rfl (al_c rfl (al_c rfl (al_c rfl (al_c rfl (al_c rfl (al_c rfl (al_c rfl (al_c rfl (al_c rfl (al_c rfl (al_c rfl (al_c rfl (al_c rfl (al_c rfl (al_c rfl (al_c rfl (al_c rfl (al_c ho0 (al_c rfl (al_c rfl (al_c rfl (al_c rfl (al_c rfl (al_c rfl (al_c ho1 (al_c rfl (al_c rfl (al_c rfl (al_c rfl (al_c rfl (al_c rfl (al_c rfl (al_c rfl (al_c rfl (al_c rfl al_n))))))))))))))))))))))))))))))))))))))))))))))))))) rfl rfl rfl) ?_
    refine r_nil ?_
    refine x_end ?_
    obtain rfl := Option.some.inj hm7
    refine ex_st (fun _ h => st_pk 6 [3, 0, 1, 2] (by decide) h) ?_
    exact x_r0 rfl (Le.refl _) (.inl ⟨_, rfl, _, rfl, v8, rfl, rfl, rfl⟩)
  · have hm7 := sm_r hm3
    clear hm3
    refine c_reg ?_
    refine r_u (o_mv rfl) ?_
    obtain rfl := Option.some.inj hm7
    exact r_sw (s_w (o_callR ca38 rfl (say_take.ok b0_ a0 (Sum.inr (rn5, ro6)) hr2) (by rintro _ _ _ ⟨rfl, rfl⟩; exact (px_st (fun _ h => st_pk 4 [0, 1, 2, 3] (by decide) h) (px_of (Le.refl _) (.inr ⟨_, rfl, _, rfl, g1_, rfl, rfl⟩)))))) (fun _ _ _ _ h => h.elim)

def say_Get (a0 : Str) : Option (api_Say × Int) :=
  (say_Get_1 (⟨a0⟩ : wire_Reader) (⟨0, (⟨0, 0, 0, 0, 0, 0⟩ : api_View), (⟨0, 0, 0, 0, 0, 0⟩ : api_View), 0, (⟨false, 0, 0, 0, (⟨0, 0, 0, 0, 0, 0⟩ : api_View), (⟨0, 0, 0, 0, 0, 0⟩ : api_View)⟩ : api_Promise), 0, 0, 0, [], (⟨0, 0, [], [], []⟩ : api_Piece), [], [], 0, 0, (⟨0, [], [], 0, 0⟩ : api_Op), (⟨0, [], 0⟩ : api_Reply)⟩ : api_Say)).bind fun r2 => Option.bind (sm r2 (fun (ra13 : wire_Reader × api_Say) => some ((if ra13.1.s == [] then 0 else 5), ra13.2)) fun ((rn14, ro15) : Int × (wire_Reader × api_Say)) => some (rn14, ro15.2)) fun p4 => if (p4.1 != 0) then some ((⟨0, (⟨0, 0, 0, 0, 0, 0⟩ : api_View), (⟨0, 0, 0, 0, 0, 0⟩ : api_View), 0, (⟨false, 0, 0, 0, (⟨0, 0, 0, 0, 0, 0⟩ : api_View), (⟨0, 0, 0, 0, 0, 0⟩ : api_View)⟩ : api_Promise), 0, 0, 0, [], (⟨0, 0, [], [], []⟩ : api_Piece), [], [], 0, 0, (⟨0, [], [], 0, 0⟩ : api_Op), (⟨0, [], 0⟩ : api_Reply)⟩ : api_Say), p4.1) else some (p4.2, 0)
theorem say_Get.ok {G R F} (a0 : Str) (r : api_Say × Int) (hm : say_Get a0 = some r) : CO Try.prog 7 [vS a0] G R (F)
    (Ret fun u R' L' => ∃ (p0 : api_Say.G), u = .tuple #[.agg [vI r.1.Kind, vW r.1.View.V, vI r.1.View.Primary, vW r.1.View.PLife, vI r.1.View.Backup, vW r.1.View.BLife, vW r.1.View.Epoch, vW r.1.Value.V, vI r.1.Value.Primary, vW r.1.Value.PLife, vI r.1.Value.Backup, vW r.1.Value.BLife, vW r.1.Value.Epoch, vW r.1.Ballot, vB r.1.Promise.OK, vW r.1.Promise.V, vW r.1.Promise.Most, vW r.1.Promise.Ballot, vW r.1.Promise.Value.V, vI r.1.Promise.Value.Primary, vW r.1.Promise.Value.PLife, vI r.1.Promise.Value.Backup, vW r.1.Promise.Value.BLife, vW r.1.Promise.Value.Epoch, vW r.1.Promise.Chosen.V, vI r.1.Promise.Chosen.Primary, vW r.1.Promise.Chosen.PLife, vI r.1.Promise.Chosen.Backup, vW r.1.Promise.Chosen.BLife, vW r.1.Promise.Chosen.Epoch, vW r.1.Seq, vW r.1.Done, vW r.1.Life, p0.Records, vI r.1.Piece.N, vI r.1.Piece.Of, vS r.1.Piece.Data, vS r.1.Piece.Sum, vS r.1.Piece.Whole, vS r.1.Digest, p0.Sums, vW r.1.Session, vW r.1.Num, vI r.1.Op.Kind, vS r.1.Op.Key, vS r.1.Op.Value, vW r.1.Op.TTL, vW r.1.Op.Version, vI r.1.Reply.E, vS r.1.Reply.Value, vW r.1.Reply.Version].toArray, vI r.2] ∧ R' = R ∧ L' = OwS true 89 9 api_Record.c p0.Records r.1.Records :: OwS true 9 1 eS p0.Sums r.1.Sums :: F) := by
  unfold say_Get at hm
  refine co_ofN (N := 14) Try.func7 rfl rfl ?_
  refine c_seq ?_
  refine c_reg ?_
  refine r_new (o_al ze37) fun b0 => ?_
  refine r_u (o_as rfl) ?_
  refine r_nil ?_
  refine x_seq ?_
  refine c_seq ?_
  refine c_reg ?_
  refine r_new (o_al ze37) fun b1 => ?_
  refine r_nil ?_
  refine x_seq ?_
  refine c_seq ?_
  refine c_seq ?_
  obtain ⟨r2, hr2, hm3⟩ := bs hm
  clear hm
  obtain ⟨p4, hp8, hm9⟩ := bs hm3
  refine cd_cut (fun x ks => ∀ (g5 : api_Say.G), EX x .normal ks [(2, pt b0 0), (4, pt b1 0), (5, vI p4.1)] R (Bk b1 37 [vI p4.2.Kind, vW p4.2.View.V, vI p4.2.View.Primary, vW p4.2.View.PLife, vI p4.2.View.Backup, vW p4.2.View.BLife, vW p4.2.View.Epoch, vW p4.2.Value.V, vI p4.2.Value.Primary, vW p4.2.Value.PLife, vI p4.2.Value.Backup, vW p4.2.Value.BLife, vW p4.2.Value.Epoch, vW p4.2.Ballot, vB p4.2.Promise.OK, vW p4.2.Promise.V, vW p4.2.Promise.Most, vW p4.2.Promise.Ballot, vW p4.2.Promise.Value.V, vI p4.2.Promise.Value.Primary, vW p4.2.Promise.Value.PLife, vI p4.2.Promise.Value.Backup, vW p4.2.Promise.Value.BLife, vW p4.2.Promise.Value.Epoch, vW p4.2.Promise.Chosen.V, vI p4.2.Promise.Chosen.Primary, vW p4.2.Promise.Chosen.PLife, vI p4.2.Promise.Chosen.Backup, vW p4.2.Promise.Chosen.BLife, vW p4.2.Promise.Chosen.Epoch, vW p4.2.Seq, vW p4.2.Done, vW p4.2.Life, g5.Records, vI p4.2.Piece.N, vI p4.2.Piece.Of, vS p4.2.Piece.Data, vS p4.2.Piece.Sum, vS p4.2.Piece.Whole, vS p4.2.Digest, g5.Sums, vW p4.2.Session, vW p4.2.Num, vI p4.2.Op.Kind, vS p4.2.Op.Key, vS p4.2.Op.Value, vW p4.2.Op.TTL, vW p4.2.Op.Version, vI p4.2.Reply.E, vS p4.2.Reply.Value, vW p4.2.Reply.Version] :: Bk b0 37 [vI 0, vW 0, vI 0, vW 0, vI 0, vW 0, vW 0, vW 0, vI 0, vW 0, vI 0, vW 0, vW 0, vW 0, vB false, vW 0, vW 0, vW 0, vW 0, vI 0, vW 0, vI 0, vW 0, vW 0, vW 0, vI 0, vW 0, vI 0, vW 0, vW 0, vW 0, vW 0, vW 0, .slice none 0 0, vI 0, vI 0, vS [], vS [], vS [], vS [], .slice none 0 0, vW 0, vW 0, vI 0, vS [], vS [], vW 0, vW 0, vI 0, vS [], vW 0] :: OwS true 89 9 api_Record.c g5.Records p4.2.Records :: OwS true 9 1 eS g5.Sums p4.2.Sums :: F)) ?_ fun K10 => ?_
  · intro g5
    refine x_seq ?_
    refine c_seq ?_
    refine c_reg ?_
    refine r_u (o_mv rfl) ?_
    refine r_u (o_bin rfl rfl (bI_ne p4.1 0)) ?_
    refine r_nil ?_
    refine x_seq ?_
    refine c_if (b := (p4.1 != 0)) rfl (fun h11 => ?_) fun h11 => ?_
    · have hm12 := ift hm9 h11
      clear hm9
      refine c_seq ?_
      refine c_reg ?_
      refine r_u (o_bld [vI 0, vW 0, vI 0, vW 0, vI 0, vW 0, vW 0, vW 0, vI 0, vW 0, vI 0, vW 0, vW 0, vW 0, vB false, vW 0, vW 0, vW 0, vW 0, vI 0, vW 0, vI 0, vW 0, vW 0, vW 0, vI 0, vW 0, vI 0, vW 0, vW 0, vW 0, vW 0, vW 0, .slice none 0 0, vI 0, vI 0, vS [], vS [], vS [], vS [], .slice none 0 0, vW 0, vW 0, vI 0, vS [], vS [], vW 0, vW 0, vI 0, vS [], vW 0] rfl (fun _ => by kernel_rfl)) ?_
      refine r_u (o_mv rfl) ?_
      refine rl_st (fun _ h => st_pk 4 [1, 0, 2, 3] (by decide) h) ?_
      refine r_u0 (o_stn ag37 rfl rfl rfl (al_c rfl (al_c rfl (al_c rfl (al_c rfl (al_c rfl (al_c rfl (al_c rfl (al_c rfl (al_c rfl (al_c rfl (al_c rfl (al_c rfl (al_c rfl (al_c rfl (al_c rfl (al_c rfl (al_c rfl (al_c rfl (al_c rfl (al_c rfl (al_c rfl (al_c rfl (al_c rfl (al_c rfl (al_c rfl (al_c rfl (al_c rfl (al_c rfl (al_c rfl (al_c rfl (al_c rfl (al_c rfl (al_c rfl (al_c rfl (al_c rfl (al_c rfl (al_c rfl (al_c rfl (al_c rfl (al_c rfl (al_c rfl (al_c rfl (al_c rfl (al_c rfl (al_c rfl (al_c rfl (al_c rfl (al_c rfl (al_c rfl (al_c rfl (al_c rfl al_n))))))))))))))))))))))))))))))))))))))))))))))))))) rfl rfl rfl) ?_
      refine r_u (o_as rfl) ?_
      refine r_nil ?_
      refine x_seq ?_
      refine c_ret ?_
      refine ex_st (fun _ h => st_nil (ap := true) (T := 89) (sz := 9) (en := api_Record.c) h) ?_
      refine ex_st (fun _ h => st_nil (ap := true) (T := 9) (sz := 1) (en := eS) h) ?_
      obtain rfl := Option.some.inj hm12
      exact x_d2 rfl (rv_n 2 [vI 0, vW 0, vI 0, vW 0, vI 0, vW 0, vW 0, vW 0, vI 0, vW 0, vI 0, vW 0, vW 0, vW 0, vB false, vW 0, vW 0, vW 0, vW 0, vI 0, vW 0, vI 0, vW 0, vW 0, vW 0, vI 0, vW 0, vI 0, vW 0, vW 0, vW 0, vW 0, vW 0, .slice none 0 0, vI 0, vI 0, vS [], vS [], vS [], vS [], .slice none 0 0 , vW 0, vW 0, vI 0, vS [], vS [], vW 0, vW 0, vI 0, vS [], vW 0] ag37 rfl rfl rfl rfl) (rv_t rfl) (fun _ h => st_pk 6 [1, 0] (by decide) h) (Le.refl _) ⟨_, rfl, (⟨.slice none 0 0, .slice none 0 0 ⟩ : api_Say.G), rfl, rfl, rfl⟩
    · have hm12 := iff_ hm9 h11
      clear hm9
      refine c_skip ?_
      refine x_seq ?_
      refine c_seq ?_
      refine c_reg ?_
      refine r_u (o_ldn 0 [vI p4.2.Kind, vW p4.2.View.V, vI p4.2.View.Primary, vW p4.2.View.PLife, vI p4.2.View.Backup, vW p4.2.View.BLife, vW p4.2.View.Epoch, vW p4.2.Value.V, vI p4.2.Value.Primary, vW p4.2.Value.PLife, vI p4.2.Value.Backup, vW p4.2.Value.BLife, vW p4.2.Value.Epoch, vW p4.2.Ballot, vB p4.2.Promise.OK, vW p4.2.Promise.V, vW p4.2.Promise.Most, vW p4.2.Promise.Ballot, vW p4.2.Promise.Value.V, vI p4.2.Promise.Value.Primary, vW p4.2.Promise.Value.PLife, vI p4.2.Promise.Value.Backup, vW p4.2.Promise.Value.BLife, vW p4.2.Promise.Value.Epoch, vW p4.2.Promise.Chosen.V, vI p4.2.Promise.Chosen.Primary, vW p4.2.Promise.Chosen.PLife, vI p4.2.Promise.Chosen.Backup, vW p4.2.Promise.Chosen.BLife, vW p4.2.Promise.Chosen.Epoch, vW p4.2.Seq, vW p4.2.Done, vW p4.2.Life, g5.Records, vI p4.2.Piece.N, vI p4.2.Piece.Of, vS p4.2.Piece.Data, vS p4.2.Piece.Sum, vS p4.2.Piece.Whole, vS p4.2.Digest, g5.Sums, vW p4.2.Session, vW p4.2.Num, vI p4.2.Op.Kind, vS p4.2.Op.Key, vS p4.2.Op.Value, vW p4.2.Op.TTL, vW p4.2.Op.Version, vI p4.2.Reply.E, vS p4.2.Reply.Value, vW p4.2.Reply.Version] ag37 rfl rfl rfl rfl) ?_
      refine rl_st (fun _ h => st_pk 4 [1, 2, 3, 0] (by decide) h) ?_
      refine r_u0 (ou_if (one_o 1 rfl) fun ho0 => ou_if (one_o 2 rfl) fun ho1 => o_stn ag37 rfl rfl rfl (al_c rfl (al_c rfl (al_c rfl (al_c rfl (al_c rfl (al_c rfl (al_c rfl (al_c rfl (al_c rfl (al_c rfl (al_c rfl (al_c rfl (al_c rfl (al_c rfl (al_c rfl (al_c rfl (al_c rfl (al_c rfl (al_c rfl (al_c rfl (al_c rfl (al_c rfl (al_c rfl (al_c rfl (al_c rfl (al_c rfl (al_c rfl (al_c rfl (al_c rfl (al_c rfl (al_c rfl (al_c rfl (al_c rfl (al_c ho0 (al_c rfl (al_c rfl (al_c rfl (al_c rfl (al_c rfl (al_c rfl (al_c ho1 (al_c rfl (al_c rfl (al_c rfl (al_c rfl (al_c rfl (al_c rfl (al_c rfl (al_c rfl (al_c rfl (al_c rfl al_n))))))))))))))))))))))))))))))))))))))))))))))))))) rfl rfl rfl) ?_
      refine r_u (o_as rfl) ?_
      refine r_nil ?_
      refine x_seq ?_
      refine c_ret ?_
      obtain rfl := Option.some.inj hm12
      exact x_d2 rfl (rv_n 0 [vI p4.2.Kind, vW p4.2.View.V, vI p4.2.View.Primary, vW p4.2.View.PLife, vI p4.2.View.Backup, vW p4.2.View.BLife, vW p4.2.View.Epoch, vW p4.2.Value.V, vI p4.2.Value.Primary, vW p4.2.Value.PLife, vI p4.2.Value.Backup, vW p4.2.Value.BLife, vW p4.2.Value.Epoch, vW p4.2.Ballot, vB p4.2.Promise.OK, vW p4.2.Promise.V, vW p4.2.Promise.Most, vW p4.2.Promise.Ballot, vW p4.2.Promise.Value.V, vI p4.2.Promise.Value.Primary, vW p4.2.Promise.Value.PLife, vI p4.2.Promise.Value.Backup, vW p4.2.Promise.Value.BLife, vW p4.2.Promise.Value.Epoch, vW p4.2.Promise.Chosen.V, vI p4.2.Promise.Chosen.Primary, vW p4.2.Promise.Chosen.PLife, vI p4.2.Promise.Chosen.Backup, vW p4.2.Promise.Chosen.BLife, vW p4.2.Promise.Chosen.Epoch, vW p4.2.Seq, vW p4.2.Done, vW p4.2.Life, g5.Records, vI p4.2.Piece.N, vI p4.2.Piece.Of, vS p4.2.Piece.Data, vS p4.2.Piece.Sum, vS p4.2.Piece.Whole, vS p4.2.Digest, g5.Sums, vW p4.2.Session, vW p4.2.Num, vI p4.2.Op.Kind, vS p4.2.Op.Key, vS p4.2.Op.Value, vW p4.2.Op.TTL, vW p4.2.Op.Version, vI p4.2.Reply.E, vS p4.2.Reply.Value, vW p4.2.Reply.Version] ag37 rfl rfl rfl rfl) (rv_t rfl) (fun _ h => st_pk 4 [1, 2] (by decide) h) (Le.refl _) ⟨_, rfl, g5, rfl, rfl, rfl⟩
  · rcases r2 with ra13 | ⟨rn14, ro15⟩
    · have hm16 := sm_l hp8
      clear hp8
      refine c_reg ?_
      refine r_u (o_mv rfl) ?_
      refine r_u (o_mf rfl) ?_
      refine rl_st (fun _ h => st_nil (ap := true) (T := 89) (sz := 9) (en := api_Record.c) h) ?_
      refine rl_st (fun _ h => st_nil (ap := true) (T := 9) (sz := 1) (en := eS) h) ?_
      refine rl_st (fun _ h => st_pk 4 [2, 1, 0, 3] (by decide) h) ?_
      refine r_c (s_w (o_call ca36 rfl (wire_Read.okL (A := [Bk b1 37 [vI 0, vW 0, vI 0, vW 0, vI 0, vW 0, vW 0, vW 0, vI 0, vW 0, vI 0, vW 0, vW 0, vW 0, vB false, vW 0, vW 0, vW 0, vW 0, vI 0, vW 0, vI 0, vW 0, vW 0, vW 0, vI 0, vW 0, vI 0, vW 0, vW 0, vW 0, vW 0, vW 0, .slice none 0 0, vI 0, vI 0, vS [], vS [], vS [], vS [], .slice none 0 0 , vW 0, vW 0, vI 0, vS [], vS [], vW 0, vW 0, vI 0, vS [], vW 0], OwS true 89 9 api_Record.c (.slice none 0 0) [], OwS true 9 1 eS (.slice none 0 0 ) []]) (M := [exP (fun (g : api_Say.G) => [Bk b1 37 [vI ra13.2.Kind, vW ra13.2.View.V, vI ra13.2.View.Primary, vW ra13.2.View.PLife, vI ra13.2.View.Backup, vW ra13.2.View.BLife, vW ra13.2.View.Epoch, vW ra13.2.Value.V, vI ra13.2.Value.Primary, vW ra13.2.Value.PLife, vI ra13.2.Value.Backup, vW ra13.2.Value.BLife, vW ra13.2.Value.Epoch, vW ra13.2.Ballot, vB ra13.2.Promise.OK, vW ra13.2.Promise.V, vW ra13.2.Promise.Most, vW ra13.2.Promise.Ballot, vW ra13.2.Promise.Value.V, vI ra13.2.Promise.Value.Primary, vW ra13.2.Promise.Value.PLife, vI ra13.2.Promise.Value.Backup, vW ra13.2.Promise.Value.BLife, vW ra13.2.Promise.Value.Epoch, vW ra13.2.Promise.Chosen.V, vI ra13.2.Promise.Chosen.Primary, vW ra13.2.Promise.Chosen.PLife, vI ra13.2.Promise.Chosen.Backup, vW ra13.2.Promise.Chosen.BLife, vW ra13.2.Promise.Chosen.Epoch, vW ra13.2.Seq, vW ra13.2.Done, vW ra13.2.Life, g.Records, vI ra13.2.Piece.N, vI ra13.2.Piece.Of, vS ra13.2.Piece.Data, vS ra13.2.Piece.Sum, vS ra13.2.Piece.Whole, vS ra13.2.Digest, g.Sums, vW ra13.2.Session, vW ra13.2.Num, vI ra13.2.Op.Kind, vS ra13.2.Op.Key, vS ra13.2.Op.Value, vW ra13.2.Op.TTL, vW ra13.2.Op.Version, vI ra13.2.Reply.E, vS ra13.2.Reply.Value, vW ra13.2.Reply.Version], OwS true 89 9 api_Record.c g.Records ra13.2.Records, OwS true 9 1 eS g.Sums ra13.2.Sums])]) (s' := ra13.1.s) ca37 (fun b F => co_lx (say_Get_1.ok b (⟨a0⟩ : wire_Reader) b1 (⟨0, (⟨0, 0, 0, 0, 0, 0⟩ : api_View), (⟨0, 0, 0, 0, 0, 0⟩ : api_View), 0, (⟨false, 0, 0, 0, (⟨0, 0, 0, 0, 0, 0⟩ : api_View), (⟨0, 0, 0, 0, 0, 0⟩ : api_View)⟩ : api_Promise), 0, 0, 0, [], (⟨0, 0, [], [], []⟩ : api_Piece), [], [], 0, 0, (⟨0, [], [], 0, 0⟩ : api_Op), (⟨0, [], 0⟩ : api_Reply)⟩ : api_Say) (⟨.slice none 0 0, .slice none 0 0 ⟩ : api_Say.G) (Sum.inl ra13) hr2) (fun _ _ _ _ ⟨q0, hu, hR, hL⟩ hs => by subst hL; exact ⟨_, ⟨hu, hR, rfl⟩, (st_pk 2 [1, 0] (by decide) (st_exP_f (f := fun (g : api_Say.G) => [Bk b1 37 [vI ra13.2.Kind, vW ra13.2.View.V, vI ra13.2.View.Primary, vW ra13.2.View.PLife, vI ra13.2.View.Backup, vW ra13.2.View.BLife, vW ra13.2.View.Epoch, vW ra13.2.Value.V, vI ra13.2.Value.Primary, vW ra13.2.Value.PLife, vI ra13.2.Value.Backup, vW ra13.2.Value.BLife, vW ra13.2.Value.Epoch, vW ra13.2.Ballot, vB ra13.2.Promise.OK, vW ra13.2.Promise.V, vW ra13.2.Promise.Most, vW ra13.2.Promise.Ballot, vW ra13.2.Promise.Value.V, vI ra13.2.Promise.Value.Primary, vW ra13.2.Promise.Value.PLife, vI ra13.2.Promise.Value.Backup, vW ra13.2.Promise.Value.BLife, vW ra13.2.Promise.Value.Epoch, vW ra13.2.Promise.Chosen.V, vI ra13.2.Promise.Chosen.Primary, vW ra13.2.Promise.Chosen.PLife, vI ra13.2.Promise.Chosen.Backup, vW ra13.2.Promise.Chosen.BLife, vW ra13.2.Promise.Chosen.Epoch, vW ra13.2.Seq, vW ra13.2.Done, vW ra13.2.Life, g.Records, vI ra13.2.Piece.N, vI ra13.2.Piece.Of, vS ra13.2.Piece.Data, vS ra13.2.Piece.Sum, vS ra13.2.Piece.Whole, vS ra13.2.Digest, g.Sums, vW ra13.2.Session, vW ra13.2.Num, vI ra13.2.Op.Kind, vS ra13.2.Op.Key, vS ra13.2.Op.Value, vW ra13.2.Op.TTL, vW ra13.2.Op.Version, vI ra13.2.Reply.E, vS ra13.2.Reply.Value, vW ra13.2.Reply.Version], OwS true 89 9 api_Record.c g.Records ra13.2.Records, OwS true 9 1 eS g.Sums ra13.2.Sums]) q0 (st_pk 4 [1, 2, 3, 0] (by decide) hs)))⟩))))) ?_
      refine rl_ex (fun w h => st_exP_o w h) fun g17 _ => ?_
      refine r_u (o_as rfl) ?_
      refine r_nil ?_
      obtain rfl := Option.some.inj hm16
      exact x_sub (K10 g17) ⟨rfl, rfl, rfl, trivial⟩ (fun _ h => st_pk 4 [0, 3, 1, 2] (by decide) h)
    · have hm16 := sm_r hp8
      clear hp8
      refine c_reg ?_
      refine r_u (o_mv rfl) ?_
      refine r_u (o_mf rfl) ?_
      refine rl_st (fun _ h => st_nil (ap := true) (T := 89) (sz := 9) (en := api_Record.c) h) ?_
      refine rl_st (fun _ h => st_nil (ap := true) (T := 9) (sz := 1) (en := eS) h) ?_
      refine rl_st (fun _ h => st_pk 4 [2, 1, 0, 3] (by decide) h) ?_
      refine r_c (s_w (o_call ca36 rfl (wire_Read.okR (A := [Bk b1 37 [vI 0, vW 0, vI 0, vW 0, vI 0, vW 0, vW 0, vW 0, vI 0, vW 0, vI 0, vW 0, vW 0, vW 0, vB false, vW 0, vW 0, vW 0, vW 0, vI 0, vW 0, vI 0, vW 0, vW 0, vW 0, vI 0, vW 0, vI 0, vW 0, vW 0, vW 0, vW 0, vW 0, .slice none 0 0, vI 0, vI 0, vS [], vS [], vS [], vS [], .slice none 0 0 , vW 0, vW 0, vI 0, vS [], vS [], vW 0, vW 0, vI 0, vS [], vW 0], OwS true 89 9 api_Record.c (.slice none 0 0) [], OwS true 9 1 eS (.slice none 0 0 ) []]) (M := [exP (fun (g : api_Say.G) => [Bk b1 37 [vI ro15.2.Kind, vW ro15.2.View.V, vI ro15.2.View.Primary, vW ro15.2.View.PLife, vI ro15.2.View.Backup, vW ro15.2.View.BLife, vW ro15.2.View.Epoch, vW ro15.2.Value.V, vI ro15.2.Value.Primary, vW ro15.2.Value.PLife, vI ro15.2.Value.Backup, vW ro15.2.Value.BLife, vW ro15.2.Value.Epoch, vW ro15.2.Ballot, vB ro15.2.Promise.OK, vW ro15.2.Promise.V, vW ro15.2.Promise.Most, vW ro15.2.Promise.Ballot, vW ro15.2.Promise.Value.V, vI ro15.2.Promise.Value.Primary, vW ro15.2.Promise.Value.PLife, vI ro15.2.Promise.Value.Backup, vW ro15.2.Promise.Value.BLife, vW ro15.2.Promise.Value.Epoch, vW ro15.2.Promise.Chosen.V, vI ro15.2.Promise.Chosen.Primary, vW ro15.2.Promise.Chosen.PLife, vI ro15.2.Promise.Chosen.Backup, vW ro15.2.Promise.Chosen.BLife, vW ro15.2.Promise.Chosen.Epoch, vW ro15.2.Seq, vW ro15.2.Done, vW ro15.2.Life, g.Records, vI ro15.2.Piece.N, vI ro15.2.Piece.Of, vS ro15.2.Piece.Data, vS ro15.2.Piece.Sum, vS ro15.2.Piece.Whole, vS ro15.2.Digest, g.Sums, vW ro15.2.Session, vW ro15.2.Num, vI ro15.2.Op.Kind, vS ro15.2.Op.Key, vS ro15.2.Op.Value, vW ro15.2.Op.TTL, vW ro15.2.Op.Version, vI ro15.2.Reply.E, vS ro15.2.Reply.Value, vW ro15.2.Reply.Version], OwS true 89 9 api_Record.c g.Records ro15.2.Records, OwS true 9 1 eS g.Sums ro15.2.Sums])]) (cs := [vS ro15.1.s]) ca37 (fun b F => co_rx (say_Get_1.ok b (⟨a0⟩ : wire_Reader) b1 (⟨0, (⟨0, 0, 0, 0, 0, 0⟩ : api_View), (⟨0, 0, 0, 0, 0, 0⟩ : api_View), 0, (⟨false, 0, 0, 0, (⟨0, 0, 0, 0, 0, 0⟩ : api_View), (⟨0, 0, 0, 0, 0, 0⟩ : api_View)⟩ : api_Promise), 0, 0, 0, [], (⟨0, 0, [], [], []⟩ : api_Piece), [], [], 0, 0, (⟨0, [], [], 0, 0⟩ : api_Op), (⟨0, [], 0⟩ : api_Reply)⟩ : api_Say) (⟨.slice none 0 0, .slice none 0 0 ⟩ : api_Say.G) (Sum.inr (rn14, ro15)) hr2) (fun _ _ _ ⟨q0, hR, hL⟩ hs => by subst hL; exact ⟨_, ⟨hR, rfl⟩, (st_pk 2 [1, 0] (by decide) (st_exP_f (f := fun (g : api_Say.G) => [Bk b1 37 [vI ro15.2.Kind, vW ro15.2.View.V, vI ro15.2.View.Primary, vW ro15.2.View.PLife, vI ro15.2.View.Backup, vW ro15.2.View.BLife, vW ro15.2.View.Epoch, vW ro15.2.Value.V, vI ro15.2.Value.Primary, vW ro15.2.Value.PLife, vI ro15.2.Value.Backup, vW ro15.2.Value.BLife, vW ro15.2.Value.Epoch, vW ro15.2.Ballot, vB ro15.2.Promise.OK, vW ro15.2.Promise.V, vW ro15.2.Promise.Most, vW ro15.2.Promise.Ballot, vW ro15.2.Promise.Value.V, vI ro15.2.Promise.Value.Primary, vW ro15.2.Promise.Value.PLife, vI ro15.2.Promise.Value.Backup, vW ro15.2.Promise.Value.BLife, vW ro15.2.Promise.Value.Epoch, vW ro15.2.Promise.Chosen.V, vI ro15.2.Promise.Chosen.Primary, vW ro15.2.Promise.Chosen.PLife, vI ro15.2.Promise.Chosen.Backup, vW ro15.2.Promise.Chosen.BLife, vW ro15.2.Promise.Chosen.Epoch, vW ro15.2.Seq, vW ro15.2.Done, vW ro15.2.Life, g.Records, vI ro15.2.Piece.N, vI ro15.2.Piece.Of, vS ro15.2.Piece.Data, vS ro15.2.Piece.Sum, vS ro15.2.Piece.Whole, vS ro15.2.Digest, g.Sums, vW ro15.2.Session, vW ro15.2.Num, vI ro15.2.Op.Kind, vS ro15.2.Op.Key, vS ro15.2.Op.Value, vW ro15.2.Op.TTL, vW ro15.2.Op.Version, vI ro15.2.Reply.E, vS ro15.2.Reply.Value, vW ro15.2.Reply.Version], OwS true 89 9 api_Record.c g.Records ro15.2.Records, OwS true 9 1 eS g.Sums ro15.2.Sums]) q0 (st_pk 4 [1, 2, 3, 0] (by decide) hs)))⟩))))) ?_
      refine rl_ex (fun w h => st_exP_o w h) fun g20 _ => ?_
      refine r_u (o_as rfl) ?_
      refine r_nil ?_
      obtain rfl := Option.some.inj hm16
      exact x_sub (K10 g20) ⟨rfl, rfl, rfl, trivial⟩ (fun _ h => st_pk 4 [0, 3, 1, 2] (by decide) h)

def wire_Num_l0  : Nat → UInt64 → Str → Option (UInt64 × Str)
  | 0, _, _ => none
  | k9 + 1, n_7, c_8 => if decide (128 ≤ n_7) then (apd 1 c_8 [((n_7 % 128).toUInt8) + 128]).bind fun l14 => wire_Num_l0 k9 (n_7 / 128) l14 else some (n_7, c_8)
def wire_Num (a0 : UInt64) : Option Str :=
  Option.bind (wire_Num_l0 11 a0 []) fun p1 => (apd 1 p1.2 [p1.1.toUInt8]).bind fun l5 => some l5
theorem wire_Num.ok {G R F} (a0 : UInt64) (r : Str) (hm : wire_Num a0 = some r) : CO Try.prog 68 [vW a0] G R (F)
    (Ret fun u R' L' => u = vS r ∧ R' = R ∧ L' = F) := by
  unfold wire_Num at hm
  refine co_ofN (N := 17) Try.func68 rfl rfl ?_
  refine c_seq ?_
  refine c_reg ?_
  refine r_u (o_as rfl) ?_
  refine r_nil ?_
  refine x_seq ?_
  refine c_seq ?_
  refine c_reg ?_
  refine r_new (o_al ze156) fun b0 => ?_
  refine rl_st (fun _ h => bld_new (e := 5) h) ?_
  refine r_nil ?_
  refine x_seq ?_
  refine c_seq ?_
  obtain ⟨p1, hp2, hm3⟩ := bs hm
  refine cd_join (E' := [(3, pt b0 0), (0, vW p1.1)]) (L' := Bld 156 5 b0 p1.2 :: F) ?_ fun K4 => ?_
  · refine x_seq ?_
    refine c_seq ?_
    refine c_reg ?_
    refine r_u (o_mv rfl) ?_
    refine r_u (o_cv rfl (cWY Try.underlying22 Try.underlying5 p1.1)) ?_
    obtain ⟨l5, hl5, hm6⟩ := bs hm3
    clear hm3
    refine r_c (s_w (o_call ca111 rfl (bld_WriteByte.ok b0 p1.2 p1.1.toUInt8 _ hl5))) ?_
    refine r_nil ?_
    refine x_seq ?_
    refine c_seq ?_
    refine c_reg ?_
    refine r_c (s_w (o_call ca112 rfl (bld_String.ok b0 l5))) ?_
    refine r_u (o_as rfl) ?_
    refine r_nil ?_
    refine x_seq ?_
    refine c_ret ?_
    obtain rfl := Option.some.inj hm6
    exact x_r1 rfl (rv_t rfl) (Le.refl _) ⟨_, rfl, rfl, rfl, rfl⟩
  · refine c_blk ?_
    refine cd_loop (M := fun k9 (s : UInt64 × Str) => wire_Num_l0 k9 s.1 s.2 = some p1) (Ef := fun (s : UInt64 × Str) => [(3, pt b0 0), (0, vW s.1)]) (Lf := fun (s : UInt64 × Str) => Bld 156 5 b0 s.2 :: F) 11 (a0, []) hp2 ⟨rfl, rfl, trivial⟩ (fun _ h => h) (fun _ h => by cases h) fun k9 s hM11 => ?_
    obtain ⟨n_7, c_8⟩ := s
    have hm10 : wire_Num_l0 (k9 + 1) n_7 c_8 = some p1 := hM11
    rw [wire_Num_l0] at hm10
    refine c_seq ?_
    refine c_seq ?_
    refine c_reg ?_
    refine r_u (o_mv rfl) ?_
    refine r_u (o_bin rfl rfl (bW_ge n_7 128)) ?_
    refine r_nil ?_
    refine x_seq ?_
    refine c_if (b := decide (128 ≤ n_7)) rfl (fun h12 => ?_) fun h12 => ?_
    · have hm13 := ift hm10 h12
      clear hm10
      refine c_skip ?_
      refine x_seq ?_
      refine c_seq ?_
      refine c_blk ?_
      refine c_reg ?_
      refine r_u (o_mv rfl) ?_
      refine r_u (o_bin rfl rfl (bW_rem n_7 128 (by decide))) ?_
      refine r_u (o_cv rfl (cWY Try.underlying22 Try.underlying5 (n_7 % 128))) ?_
      refine r_u (o_bin rfl rfl (bY_add ((n_7 % 128).toUInt8) 128)) ?_
      obtain ⟨l14, hl14, hm15⟩ := bs hm13
      clear hm13
      refine r_c (s_w (o_call ca111 rfl (bld_WriteByte.ok b0 c_8 (((n_7 % 128).toUInt8) + 128) _ hl14))) ?_
      refine r_nil ?_
      refine x_blk ?_
      refine x_seq ?_
      refine c_reg ?_
      refine r_u (o_mv rfl) ?_
      refine r_u (o_bin rfl rfl (bW_quo n_7 128 (by decide))) ?_
      refine r_u (o_as rfl) ?_
      refine r_nil ?_
      exact x_lp (n_7 / 128, l14) hm15 ⟨rfl, rfl, trivial⟩ (fun _ h => st_pk 1 [0] (by decide) h)
    · have hm13 := iff_ hm10 h12
      clear hm10
      refine c_exit (x_exit (ks' := _) rfl ?_)
      obtain rfl := Option.some.inj hm13
      exact x_sub K4 ⟨rfl, rfl, trivial⟩ (fun _ h => st_pk 1 [0] (by decide) h)

def cell_Put (a0 : api_View) : Option Str :=
  Option.bind (if decide (a0 = (⟨0, 0, 0, 0, 0, 0⟩ : api_View)) then some (-1) else some a0.Backup) fun p1 => (wire_Num a0.V).bind fun r5 => (wire_Num (toW a0.Primary)).bind fun r7 => if r5.length + r7.length ≤ maxS then (wire_Num a0.PLife).bind fun r11 => if (r5 ++ r7).length + r11.length ≤ maxS then (wire_Num (toW (i64 (p1 + 1)))).bind fun r15 => if ((r5 ++ r7) ++ r11).length + r15.length ≤ maxS then (wire_Num a0.BLife).bind fun r19 => if (((r5 ++ r7) ++ r11) ++ r15).length + r19.length ≤ maxS then (wire_Num a0.Epoch).bind fun r23 => if ((((r5 ++ r7) ++ r11) ++ r15) ++ r19).length + r23.length ≤ maxS then some (((((r5 ++ r7) ++ r11) ++ r15) ++ r19) ++ r23) else none else none else none else none else none
theorem cell_Put.ok {G R F} (a0 : api_View) (r : Str) (hm : cell_Put a0 = some r) : CO Try.prog 81 [.agg (api_View.c a0).toArray] G R (F)
    (Ret fun u R' L' => u = vS r ∧ R' = R ∧ L' = F) := by
  unfold cell_Put at hm
  refine co_ofN (N := 33) Try.func81 rfl rfl ?_
  refine c_seq ?_
  refine c_reg ?_
  refine r_new (o_bx (api_View.c a0) rfl rfl) fun b0 => ?_
  refine r_u (o_as rfl) ?_
  refine r_nil ?_
  refine x_seq ?_
  refine c_seq ?_
  refine c_seq ?_
  refine c_reg ?_
  refine r_u (o_ldn 0 (api_View.c a0) ag24 rfl rfl rfl rfl) ?_
  refine r_u (o_bld [vW 0, vI 0, vW 0, vI 0, vW 0, vW 0] rfl (fun _ => by kernel_rfl)) ?_
  refine r_u (o_bin rfl rfl (api_View.beq_24 a0 (⟨0, 0, 0, 0, 0, 0⟩ : api_View))) ?_
  refine r_nil ?_
  refine x_seq ?_
  obtain ⟨p1, hp2, hm3⟩ := bs hm
  refine cd_join (E' := [(1, pt b0 0)]) (L' := Bk b0 24 [vW a0.V, vI a0.Primary, vW a0.PLife, vI p1, vW a0.BLife, vW a0.Epoch] :: F) ?_ fun K4 => ?_
  · refine x_seq ?_
    refine c_seq ?_
    obtain ⟨r5, hr5, hm6⟩ := bs hm3
    clear hm3
    obtain ⟨r7, hr7, hm8⟩ := bs hm6
    clear hm6
    obtain ⟨h9, hm10⟩ := ig hm8
    clear hm8
    obtain ⟨r11, hr11, hm12⟩ := bs hm10
    clear hm10
    obtain ⟨h13, hm14⟩ := ig hm12
    clear hm12
    obtain ⟨r15, hr15, hm16⟩ := bs hm14
    clear hm14
    obtain ⟨h17, hm18⟩ := ig hm16
    clear hm16
    obtain ⟨r19, hr19, hm20⟩ := bs hm18
    clear hm18
    obtain ⟨h21, hm22⟩ := ig hm20
    clear hm20
    obtain ⟨r23, hr23, hm24⟩ := bs hm22
    clear hm22
    obtain ⟨h25, hm26⟩ := ig hm24
    clear hm24
    refine c_any mixed (effs := []) (V := []) ?_
    refine stage_ext [(0, pt b0 0), (1, vW a0.V), (2, vS r5), (3, pt b0 1), (4, vI a0.Primary), (5, vW (toW a0.Primary)), (6, vS r7), (7, vS (r5 ++ r7)), (8, pt b0 2), (9, vW a0.PLife), (10, vS r11), (11, vS ((r5 ++ r7) ++ r11)), (12, pt b0 3), (13, vI p1), (14, vI (i64 (p1 + 1))), (15, vW (toW (i64 (p1 + 1)))), (16, vS r15), (17, vS (((r5 ++ r7) ++ r11) ++ r15)), (18, pt b0 4), (19, vW a0.BLife), (20, vS r19), (21, vS ((((r5 ++ r7) ++ r11) ++ r15) ++ r19)), (22, pt b0 5), (23, vW a0.Epoch), (24, vS r23), (25, vS (((((r5 ++ r7) ++ r11) ++ r15) ++ r19) ++ r23)), (26, vS (((((r5 ++ r7) ++ r11) ++ r15) ++ r19) ++ r23))] rfl ?_
    refine stage rfl rfl rfl rfl [0, 1, 3, 0, 8, 24, 63, 127, 0, 256, 895, 2047, 0, 4096, 12288, 28672, 63359, 131071, 0, 262144, 915327, 2097151, 0, 4194304, 14546815, 33554431, 67108863] [0, 1, 2, 3, 4, 5, 6, 7, 8, 9, 10, 11, 12, 13, 14, 15, 16, 17, 18, 19, 20, 21, 22, 23, 24, 25, 26] [] rfl rfl rfl (qc rfl rfl (s_u (o_fa fa24_0 rfl)) (qc rfl rfl (s_u (o_ld 0 sc22 rfl rfl rfl)) (qc rfl rfl (s_u (o_callq ca68 rfl (wire_Num.ok a0.V r5 hr5))) (qc rfl rfl (s_u (o_fa fa24_1 rfl)) (qc rfl rfl (s_u (o_ld 0 sc3 rfl rfl rfl)) (qc rfl rfl (s_u (o_cv rfl (cIW Try.underlying3 Try.underlying22 a0.Primary))) (qc rfl rfl (s_u (o_callq ca68 rfl (wire_Num.ok (toW a0.Primary) r7 hr7))) (qc rfl rfl (s_u (o_bin rfl rfl (bS_add r5 r7 h9))) (qc rfl rfl (s_u (o_fa fa24_2 rfl)) (qc rfl rfl (s_u (o_ld 0 sc22 rfl rfl rfl)) (qc rfl rfl (s_u (o_callq ca68 rfl (wire_Num.ok a0.PLife r11 hr11))) (qc rfl rfl (s_u (o_bin rfl rfl (bS_add (r5 ++ r7) r11 h13))) (qc rfl rfl (s_u (o_fa fa24_3 rfl)) (qc rfl rfl (s_u (o_ld 0 sc3 rfl rfl rfl)) (qc rfl rfl (s_u (o_bin rfl rfl (bI_add p1 1))) (qc rfl rfl (s_u (o_cv rfl (cIW Try.underlying3 Try.underlying22 (i64 (p1 + 1))))) (qc rfl rfl (s_u (o_callq ca68 rfl (wire_Num.ok (toW (i64 (p1 + 1))) r15 hr15))) (qc rfl rfl (s_u (o_bin rfl rfl (bS_add ((r5 ++ r7) ++ r11) r15 h17))) (qc rfl rfl (s_u (o_fa fa24_4 rfl)) (qc rfl rfl (s_u (o_ld 0 sc22 rfl rfl rfl)) (qc rfl rfl (s_u (o_callq ca68 rfl (wire_Num.ok a0.BLife r19 hr19))) (qc rfl rfl (s_u (o_bin rfl rfl (bS_add (((r5 ++ r7) ++ r11) ++ r15) r19 h21))) (qc rfl rfl (s_u (o_fa fa24_5 rfl)) (qc rfl rfl (s_u (o_ld 0 sc22 rfl rfl rfl)) (qc rfl rfl (s_u (o_callq ca68 rfl (wire_Num.ok a0.Epoch r23 hr23))) (qc rfl rfl (s_u (o_bin rfl rfl (bS_add ((((r5 ++ r7) ++ r11) ++ r15) ++ r19) r23 h25))) (qc rfl rfl (s_u (o_as rfl)) qn))))))))))))))))))))))))))) en ?_
    intro _
    refine ex_sub (E' := [(2, vS (((((r5 ++ r7) ++ r11) ++ r15) ++ r19) ++ r23))]) ⟨rfl, trivial⟩ ?_
    refine x_seq ?_
    refine c_ret ?_
    obtain rfl := Option.some.inj hm26
    refine ex_st (fun _ h => st_pk 1 [] (by decide) h) ?_
    exact x_r1 rfl (rv_t rfl) (Le.refl _) ⟨_, rfl, rfl, rfl, rfl⟩
  · refine c_if (b := decide (a0 = (⟨0, 0, 0, 0, 0, 0⟩ : api_View))) rfl (fun h27 => ?_) fun h27 => ?_
    · have hm28 := ift hp2 h27
      clear hp2
      refine c_reg ?_
      refine r_u (o_fa fa24_3 rfl) ?_
      refine r_u0 (o_st sc3 rfl rfl rfl rfl rfl rfl) ?_
      refine r_nil ?_
      obtain rfl := Option.some.inj hm28
      exact x_sub K4 ⟨rfl, trivial⟩ (fun _ h => st_pk 1 [0] (by decide) h)
    · have hm28 := iff_ hp2 h27
      clear hp2
      refine c_skip ?_
      obtain rfl := Option.some.inj hm28
      exact x_sub K4 ⟨rfl, trivial⟩ (fun _ h => st_pk 1 [0] (by decide) h)

def wire_Flag (a0 : Bool) : Str :=
  if a0 then [1] else [0]
theorem wire_Flag.ok {G R F} (a0 : Bool) (r : Str) (hm : wire_Flag a0 = r) : CO Try.prog 119 [vB a0] G R (F)
    (Ret fun u R' L' => u = vS r ∧ R' = R ∧ L' = F) := by
  unfold wire_Flag at hm
  refine co_ofN (N := 4) Try.func119 rfl rfl ?_
  refine c_seq ?_
  refine c_reg ?_
  refine r_u (o_as rfl) ?_
  refine r_nil ?_
  refine x_seq ?_
  refine c_seq ?_
  refine c_seq ?_
  refine c_reg ?_
  refine r_u (o_mv rfl) ?_
  refine r_nil ?_
  refine x_seq ?_
  refine c_if (b := a0) rfl (fun h0 => ?_) fun h0 => ?_
  · have hm1 := ift hm h0
    clear hm
    refine c_seq ?_
    refine c_reg ?_
    refine r_u (o_as rfl) ?_
    refine r_nil ?_
    refine x_seq ?_
    refine c_ret ?_
    subst hm1
    exact x_r1 rfl (rv_t rfl) (Le.refl _) ⟨_, rfl, rfl, rfl, rfl⟩
  · have hm1 := iff_ hm h0
    clear hm
    refine c_skip ?_
    refine x_seq ?_
    refine c_seq ?_
    refine c_reg ?_
    refine r_u (o_as rfl) ?_
    refine r_nil ?_
    refine x_seq ?_
    refine c_ret ?_
    subst hm1
    exact x_r1 rfl (rv_t rfl) (Le.refl _) ⟨_, rfl, rfl, rfl, rfl⟩

def say_putPromise (a0 : api_Promise) : Option Str :=
  (wire_Num a0.V).bind fun r1 => if (wire_Flag a0.OK).length + r1.length ≤ maxS then (wire_Num a0.Most).bind fun r5 => if ((wire_Flag a0.OK) ++ r1).length + r5.length ≤ maxS then (wire_Num a0.Ballot).bind fun r9 => if (((wire_Flag a0.OK) ++ r1) ++ r5).length + r9.length ≤ maxS then (cell_Put a0.Value).bind fun r13 => if ((((wire_Flag a0.OK) ++ r1) ++ r5) ++ r9).length + r13.length ≤ maxS then (cell_Put a0.Chosen).bind fun r17 => if (((((wire_Flag a0.OK) ++ r1) ++ r5) ++ r9) ++ r13).length + r17.length ≤ maxS then some ((((((wire_Flag a0.OK) ++ r1) ++ r5) ++ r9) ++ r13) ++ r17) else none else none else none else none else none
theorem say_putPromise.ok {G R F} (a0 : api_Promise) (r : Str) (hm : say_putPromise a0 = some r) : CO Try.prog 82 [.agg (api_Promise.c a0).toArray] G R (F)
    (Ret fun u R' L' => u = vS r ∧ R' = R ∧ L' = F) := by
  unfold say_putPromise at hm
  refine co_ofN (N := 26) Try.func82 rfl rfl ?_
  refine c_seq ?_
  refine c_reg ?_
  refine r_new (o_bx (api_Promise.c a0) rfl rfl) fun b0 => ?_
  refine r_u (o_as rfl) ?_
  refine r_nil ?_
  refine x_seq ?_
  refine c_seq ?_
  obtain ⟨r1, hr1, hm2⟩ := bs hm
  clear hm
  obtain ⟨h3, hm4⟩ := ig hm2
  clear hm2
  obtain ⟨r5, hr5, hm6⟩ := bs hm4
  clear hm4
  obtain ⟨h7, hm8⟩ := ig hm6
  clear hm6
  obtain ⟨r9, hr9, hm10⟩ := bs hm8
  clear hm8
  obtain ⟨h11, hm12⟩ := ig hm10
  clear hm10
  obtain ⟨r13, hr13, hm14⟩ := bs hm12
  clear hm12
  obtain ⟨h15, hm16⟩ := ig hm14
  clear hm14
  obtain ⟨r17, hr17, hm18⟩ := bs hm16
  clear hm16
  obtain ⟨h19, hm20⟩ := ig hm18
  clear hm18
  refine c_any mixed (effs := []) (V := []) ?_
  refine stage_ext [(0, pt b0 0), (1, vB a0.OK), (2, vS (wire_Flag a0.OK)), (3, pt b0 1), (4, vW a0.V), (5, vS r1), (6, vS ((wire_Flag a0.OK) ++ r1)), (7, pt b0 2), (8, vW a0.Most), (9, vS r5), (10, vS (((wire_Flag a0.OK) ++ r1) ++ r5)), (11, pt b0 3), (12, vW a0.Ballot), (13, vS r9), (14, vS ((((wire_Flag a0.OK) ++ r1) ++ r5) ++ r9)), (15, pt b0 4), (16, .agg (api_View.c a0.Value).toArray), (17, vS r13), (18, vS (((((wire_Flag a0.OK) ++ r1) ++ r5) ++ r9) ++ r13)), (19, pt b0 10), (20, .agg (api_View.c a0.Chosen).toArray), (21, vS r17), (22, vS ((((((wire_Flag a0.OK) ++ r1) ++ r5) ++ r9) ++ r13) ++ r17)), (23, vS ((((((wire_Flag a0.OK) ++ r1) ++ r5) ++ r9) ++ r13) ++ r17))] rfl ?_
  refine stage rfl rfl rfl rfl [0, 1, 3, 0, 8, 31, 63, 0, 128, 447, 1023, 0, 2048, 7103, 16383, 0, 32768, 113599, 262143, 0, 524288, 1817535, 4194303, 8388607] [0, 1, 2, 3, 4, 5, 6, 7, 8, 9, 10, 11, 12, 13, 14, 15, 16, 17, 18, 19, 20, 21, 22, 23] [] rfl rfl rfl (qc rfl rfl (s_u (o_fa fa26_0 rfl)) (qc rfl rfl (s_u (o_ld 0 sc4 rfl rfl rfl)) (qc rfl rfl (s_u (o_callq ca119 rfl (wire_Flag.ok a0.OK _ rfl))) (qc rfl rfl (s_u (o_fa fa26_1 rfl)) (qc rfl rfl (s_u (o_ld 0 sc22 rfl rfl rfl)) (qc rfl rfl (s_u (o_callq ca68 rfl (wire_Num.ok a0.V r1 hr1))) (qc rfl rfl (s_u (o_bin rfl rfl (bS_add (wire_Flag a0.OK) r1 h3))) (qc rfl rfl (s_u (o_fa fa26_2 rfl)) (qc rfl rfl (s_u (o_ld 0 sc22 rfl rfl rfl)) (qc rfl rfl (s_u (o_callq ca68 rfl (wire_Num.ok a0.Most r5 hr5))) (qc rfl rfl (s_u (o_bin rfl rfl (bS_add ((wire_Flag a0.OK) ++ r1) r5 h7))) (qc rfl rfl (s_u (o_fa fa26_3 rfl)) (qc rfl rfl (s_u (o_ld 0 sc22 rfl rfl rfl)) (qc rfl rfl (s_u (o_callq ca68 rfl (wire_Num.ok a0.Ballot r9 hr9))) (qc rfl rfl (s_u (o_bin rfl rfl (bS_add (((wire_Flag a0.OK) ++ r1) ++ r5) r9 h11))) (qc rfl rfl (s_u (o_fa fa26_4 rfl)) (qc rfl rfl (s_u (o_ldn 0 (api_View.c a0.Value) ag24 rfl rfl rfl rfl)) (qc rfl rfl (s_u (o_callq ca81 rfl (cell_Put.ok a0.Value r13 hr13))) (qc rfl rfl (s_u (o_bin rfl rfl (bS_add ((((wire_Flag a0.OK) ++ r1) ++ r5) ++ r9) r13 h15))) (qc rfl rfl (s_u (o_fa fa26_5 rfl)) (qc rfl rfl (s_u (o_ldn 0 (api_View.c a0.Chosen) ag24 rfl rfl rfl rfl)) (qc rfl rfl (s_u (o_callq ca81 rfl (cell_Put.ok a0.Chosen r17 hr17))) (qc rfl rfl (s_u (o_bin rfl rfl (bS_add (((((wire_Flag a0.OK) ++ r1) ++ r5) ++ r9) ++ r13) r17 h19))) (qc rfl rfl (s_u (o_as rfl)) qn)))))))))))))))))))))))) en ?_
  intro _
  refine ex_sub (E' := [(2, vS ((((((wire_Flag a0.OK) ++ r1) ++ r5) ++ r9) ++ r13) ++ r17))]) ⟨rfl, trivial⟩ ?_
  refine x_seq ?_
  refine c_ret ?_
  obtain rfl := Option.some.inj hm20
  refine ex_st (fun _ h => st_pk 1 [] (by decide) h) ?_
  exact x_r1 rfl (rv_t rfl) (Le.refl _) ⟨_, rfl, rfl, rfl, rfl⟩

def wire_Text (a0 : Str) : Option Str :=
  (wire_Num (toW (a0.length : Int))).bind fun r0 => if r0.length + a0.length ≤ maxS then some (r0 ++ a0) else none
theorem wire_Text.ok {G R F} (a0 : Str) (r : Str) (hm : wire_Text a0 = some r) : CO Try.prog 88 [vS a0] G R (F)
    (Ret fun u R' L' => u = vS r ∧ R' = R ∧ L' = F) := by
  unfold wire_Text at hm
  refine co_ofN (N := 9) Try.func88 rfl rfl ?_
  refine c_seq ?_
  refine c_reg ?_
  refine r_u (o_as rfl) ?_
  refine r_nil ?_
  refine x_seq ?_
  refine c_seq ?_
  refine c_reg ?_
  refine r_u (o_mv rfl) ?_
  refine r_u (o_lenS Try.underlying9 rfl) ?_
  refine r_u (o_cv rfl (cIW Try.underlying3 Try.underlying22 (a0.length : Int))) ?_
  obtain ⟨r0, hr0, hm1⟩ := bs hm
  clear hm
  refine r_u (o_callq ca68 rfl (wire_Num.ok (toW (a0.length : Int)) r0 hr0)) ?_
  refine r_u (o_mv rfl) ?_
  obtain ⟨h2, hm3⟩ := ig hm1
  clear hm1
  refine r_u (o_bin rfl rfl (bS_add r0 a0 h2)) ?_
  refine r_u (o_as rfl) ?_
  refine r_nil ?_
  refine x_seq ?_
  refine c_ret ?_
  obtain rfl := Option.some.inj hm3
  exact x_r1 rfl (rv_t rfl) (Le.refl _) ⟨_, rfl, rfl, rfl, rfl⟩

def op_Put (a0 : api_Op) : Option Str :=
  (wire_Num (toW a0.Kind)).bind fun r1 => if (a0.Kind == 5) then some r1 else Option.bind (if (a0.Kind == 1) then some (a0.Kind == 1) else some (a0.Kind == 3)) fun p5 => if p5 then (wire_Text a0.Key).bind fun r11 => if r1.length + r11.length ≤ maxS then some (r1 ++ r11) else none else if (a0.Kind == 2) then (wire_Text a0.Key).bind fun r17 => if r1.length + r17.length ≤ maxS then (wire_Text a0.Value).bind fun r21 => if (r1 ++ r17).length + r21.length ≤ maxS then (wire_Num a0.TTL).bind fun r25 => if ((r1 ++ r17) ++ r21).length + r25.length ≤ maxS then some (((r1 ++ r17) ++ r21) ++ r25) else none else none else none else (wire_Text a0.Key).bind fun r29 => if r1.length + r29.length ≤ maxS then (wire_Text a0.Value).bind fun r33 => if (r1 ++ r29).length + r33.length ≤ maxS then (wire_Num a0.TTL).bind fun r37 => if ((r1 ++ r29) ++ r33).length + r37.length ≤ maxS then (wire_Num a0.Version).bind fun r41 => if (((r1 ++ r29) ++ r33) ++ r37).length + r41.length ≤ maxS then some ((((r1 ++ r29) ++ r33) ++ r37) ++ r41) else none else none else none else none
theorem op_Put.ok {G R F} (a0 : api_Op) (r : Str) (hm : op_Put a0 = some r) : CO Try.prog 86 [.agg (api_Op.c a0).toArray] G R (F)
    (Ret fun u R' L' => u = vS r ∧ R' = R ∧ L' = F) := by
  unfold op_Put at hm
  refine co_ofN (N := 53) Try.func86 rfl rfl ?_
  refine c_seq ?_
  refine c_reg ?_
  refine r_new (o_bx (api_Op.c a0) rfl rfl) fun b0 => ?_
  refine r_u (o_as rfl) ?_
  refine r_nil ?_
  refine x_seq ?_
  refine c_seq ?_
  refine c_reg ?_
  refine r_u (o_fa fa32_0 rfl) ?_
  refine r_u (o_ld 0 sc3 rfl rfl rfl) ?_
  refine r_u (o_cv rfl (cIW Try.underlying3 Try.underlying22 a0.Kind)) ?_
  obtain ⟨r1, hr1, hm2⟩ := bs hm
  clear hm
  refine r_u (o_callq ca68 rfl (wire_Num.ok (toW a0.Kind) r1 hr1)) ?_
  refine r_u (o_as rfl) ?_
  refine r_nil ?_
  refine x_seq ?_
  refine c_seq ?_
  refine c_seq ?_
  refine c_reg ?_
  refine r_u (o_fa fa32_0 rfl) ?_
  refine r_u (o_ld 0 sc3 rfl rfl rfl) ?_
  refine r_nil ?_
  refine x_seq ?_
  refine c_blk ?_
  refine c_seq ?_
  refine c_reg ?_
  refine r_u (o_bin rfl rfl (bI_eq a0.Kind 5)) ?_
  refine r_u (o_as rfl) ?_
  refine r_nil ?_
  refine x_seq ?_
  refine c_if (b := (a0.Kind == 5)) rfl (fun h3 => ?_) fun h3 => ?_
  · have hm4 := ift hm2 h3
    clear hm2
    refine c_seq ?_
    refine c_reg ?_
    refine r_u (o_mv rfl) ?_
    refine r_u (o_as rfl) ?_
    refine r_nil ?_
    refine x_seq ?_
    refine c_ret ?_
    obtain rfl := Option.some.inj hm4
    refine ex_st (fun _ h => st_pk 1 [] (by decide) h) ?_
    exact x_r1 rfl (rv_t rfl) (Le.refl _) ⟨_, rfl, rfl, rfl, rfl⟩
  · have hm4 := iff_ hm2 h3
    clear hm2
    refine c_seq ?_
    refine c_seq ?_
    refine c_reg ?_
    refine r_u (o_bin rfl rfl (bI_eq a0.Kind 1)) ?_
    refine r_u (o_as rfl) ?_
    refine r_nil ?_
    refine x_seq ?_
    obtain ⟨p5, hp6, hm7⟩ := bs hm4
    refine cd_join (E' := [(1, pt b0 0), (3, vS r1), (9, vI a0.Kind), (13, vB p5)]) (L' := Bk b0 32 (api_Op.c a0) :: F) ?_ fun K8 => ?_
    · refine x_seq ?_
      refine c_if (b := p5) rfl (fun h9 => ?_) fun h9 => ?_
      · have hm10 := ift hm7 h9
        clear hm7
        refine c_seq ?_
        refine c_reg ?_
        refine r_u (o_mv rfl) ?_
        refine r_u (o_fa fa32_1 rfl) ?_
        refine r_u (o_ld 0 sc9 rfl rfl rfl) ?_
        obtain ⟨r11, hr11, hm12⟩ := bs hm10
        clear hm10
        refine r_u (o_callq ca88 rfl (wire_Text.ok a0.Key r11 hr11)) ?_
        obtain ⟨h13, hm14⟩ := ig hm12
        clear hm12
        refine r_u (o_bin rfl rfl (bS_add r1 r11 h13)) ?_
        refine r_u (o_as rfl) ?_
        refine r_nil ?_
        refine x_seq ?_
        refine c_ret ?_
        obtain rfl := Option.some.inj hm14
        refine ex_st (fun _ h => st_pk 1 [] (by decide) h) ?_
        exact x_r1 rfl (rv_t rfl) (Le.refl _) ⟨_, rfl, rfl, rfl, rfl⟩
      · have hm10 := iff_ hm7 h9
        clear hm7
        refine c_seq ?_
        refine c_reg ?_
        refine r_u (o_bin rfl rfl (bI_eq a0.Kind 2)) ?_
        refine r_u (o_as rfl) ?_
        refine r_nil ?_
        refine x_seq ?_
        refine c_if (b := (a0.Kind == 2)) rfl (fun h15 => ?_) fun h15 => ?_
        · have hm16 := ift hm10 h15
          clear hm10
          refine c_seq ?_
          obtain ⟨r17, hr17, hm18⟩ := bs hm16
          clear hm16
          obtain ⟨h19, hm20⟩ := ig hm18
          clear hm18
          obtain ⟨r21, hr21, hm22⟩ := bs hm20
          clear hm20
          obtain ⟨h23, hm24⟩ := ig hm22
          clear hm22
          obtain ⟨r25, hr25, hm26⟩ := bs hm24
          clear hm24
          obtain ⟨h27, hm28⟩ := ig hm26
          clear hm26
          refine c_any mixed (effs := []) (V := []) ?_
          refine stage_ext [(0, vS r1), (1, pt b0 1), (2, vS a0.Key), (3, vS r17), (4, vS (r1 ++ r17)), (5, pt b0 2), (6, vS a0.Value), (7, vS r21), (8, vS ((r1 ++ r17) ++ r21)), (9, pt b0 3), (10, vW a0.TTL), (11, vS r25), (12, vS (((r1 ++ r17) ++ r21) ++ r25)), (13, vS (((r1 ++ r17) ++ r21) ++ r25))] rfl ?_
          refine stage rfl rfl rfl rfl [0, 0, 2, 6, 15, 0, 32, 110, 255, 0, 512, 1774, 4095, 8191] [0, 1, 2, 3, 4, 5, 6, 7, 8, 9, 10, 11, 12, 13] [] rfl rfl rfl (qc rfl rfl (s_u (o_mv rfl)) (qc rfl rfl (s_u (o_fa fa32_1 rfl)) (qc rfl rfl (s_u (o_ld 0 sc9 rfl rfl rfl)) (qc rfl rfl (s_u (o_callq ca88 rfl (wire_Text.ok a0.Key r17 hr17))) (qc rfl rfl (s_u (o_bin rfl rfl (bS_add r1 r17 h19))) (qc rfl rfl (s_u (o_fa fa32_2 rfl)) (qc rfl rfl (s_u (o_ld 0 sc9 rfl rfl rfl)) (qc rfl rfl (s_u (o_callq ca88 rfl (wire_Text.ok a0.Value r21 hr21))) (qc rfl rfl (s_u (o_bin rfl rfl (bS_add (r1 ++ r17) r21 h23))) (qc rfl rfl (s_u (o_fa fa32_3 rfl)) (qc rfl rfl (s_u (o_ld 0 sc22 rfl rfl rfl)) (qc rfl rfl (s_u (o_callq ca68 rfl (wire_Num.ok a0.TTL r25 hr25))) (qc rfl rfl (s_u (o_bin rfl rfl (bS_add ((r1 ++ r17) ++ r21) r25 h27))) (qc rfl rfl (s_u (o_as rfl)) qn)))))))))))))) en ?_
          intro _
          refine ex_sub (E' := [(2, vS (((r1 ++ r17) ++ r21) ++ r25))]) ⟨rfl, trivial⟩ ?_
          refine x_seq ?_
          refine c_ret ?_
          obtain rfl := Option.some.inj hm28
          refine ex_st (fun _ h => st_pk 1 [] (by decide) h) ?_
          exact x_r1 rfl (rv_t rfl) (Le.refl _) ⟨_, rfl, rfl, rfl, rfl⟩
        · have hm16 := iff_ hm10 h15
          clear hm10
          refine c_skip ?_
          refine x_blk ?_
          refine x_seq ?_
          refine c_seq ?_
          obtain ⟨r29, hr29, hm30⟩ := bs hm16
          clear hm16
          obtain ⟨h31, hm32⟩ := ig hm30
          clear hm30
          obtain ⟨r33, hr33, hm34⟩ := bs hm32
          clear hm32
          obtain ⟨h35, hm36⟩ := ig hm34
          clear hm34
          obtain ⟨r37, hr37, hm38⟩ := bs hm36
          clear hm36
          obtain ⟨h39, hm40⟩ := ig hm38
          clear hm38
          obtain ⟨r41, hr41, hm42⟩ := bs hm40
          clear hm40
          obtain ⟨h43, hm44⟩ := ig hm42
          clear hm42
          refine c_any mixed (effs := []) (V := []) ?_
          refine stage_ext [(0, vS r1), (1, pt b0 1), (2, vS a0.Key), (3, vS r29), (4, vS (r1 ++ r29)), (5, pt b0 2), (6, vS a0.Value), (7, vS r33), (8, vS ((r1 ++ r29) ++ r33)), (9, pt b0 3), (10, vW a0.TTL), (11, vS r37), (12, vS (((r1 ++ r29) ++ r33) ++ r37)), (13, pt b0 4), (14, vW a0.Version), (15, vS r41), (16, vS ((((r1 ++ r29) ++ r33) ++ r37) ++ r41)), (17, vS ((((r1 ++ r29) ++ r33) ++ r37) ++ r41))] rfl ?_
          refine stage rfl rfl rfl rfl [0, 0, 2, 6, 15, 0, 32, 110, 255, 0, 512, 1774, 4095, 0, 8192, 28398, 65535, 131071] [0, 1, 2, 3, 4, 5, 6, 7, 8, 9, 10, 11, 12, 13, 14, 15, 16, 17] [] rfl rfl rfl (qc rfl rfl (s_u (o_mv rfl)) (qc rfl rfl (s_u (o_fa fa32_1 rfl)) (qc rfl rfl (s_u (o_ld 0 sc9 rfl rfl rfl)) (qc rfl rfl (s_u (o_callq ca88 rfl (wire_Text.ok a0.Key r29 hr29))) (qc rfl rfl (s_u (o_bin rfl rfl (bS_add r1 r29 h31))) (qc rfl rfl (s_u (o_fa fa32_2 rfl)) (qc rfl rfl (s_u (o_ld 0 sc9 rfl rfl rfl)) (qc rfl rfl (s_u (o_callq ca88 rfl (wire_Text.ok a0.Value r33 hr33))) (qc rfl rfl (s_u (o_bin rfl rfl (bS_add (r1 ++ r29) r33 h35))) (qc rfl rfl (s_u (o_fa fa32_3 rfl)) (qc rfl rfl (s_u (o_ld 0 sc22 rfl rfl rfl)) (qc rfl rfl (s_u (o_callq ca68 rfl (wire_Num.ok a0.TTL r37 hr37))) (qc rfl rfl (s_u (o_bin rfl rfl (bS_add ((r1 ++ r29) ++ r33) r37 h39))) (qc rfl rfl (s_u (o_fa fa32_4 rfl)) (qc rfl rfl (s_u (o_ld 0 sc22 rfl rfl rfl)) (qc rfl rfl (s_u (o_callq ca68 rfl (wire_Num.ok a0.Version r41 hr41))) (qc rfl rfl (s_u (o_bin rfl rfl (bS_add (((r1 ++ r29) ++ r33) ++ r37) r41 h43))) (qc rfl rfl (s_u (o_as rfl)) qn)))))))))))))))))) en ?_
          intro _
          refine ex_sub (E' := [(2, vS ((((r1 ++ r29) ++ r33) ++ r37) ++ r41))]) ⟨rfl, trivial⟩ ?_
          refine x_seq ?_
          refine c_ret ?_
          obtain rfl := Option.some.inj hm44
          refine ex_st (fun _ h => st_pk 1 [] (by decide) h) ?_
          exact x_r1 rfl (rv_t rfl) (Le.refl _) ⟨_, rfl, rfl, rfl, rfl⟩
    · refine c_if (b := (a0.Kind == 1)) rfl (fun h45 => ?_) fun h45 => ?_
      · have hm46 := ift hp6 h45
        clear hp6
        refine c_skip ?_
        obtain rfl := Option.some.inj hm46
        exact x_sub K8 ⟨rfl, rfl, rfl, rfl, trivial⟩ (fun _ h => st_pk 1 [0] (by decide) h)
      · have hm46 := iff_ hp6 h45
        clear hp6
        refine c_reg ?_
        refine r_u (o_bin rfl rfl (bI_eq a0.Kind 3)) ?_
        refine r_u (o_as rfl) ?_
        refine r_nil ?_
        obtain rfl := Option.some.inj hm46
        exact x_sub K8 ⟨rfl, rfl, rfl, rfl, trivial⟩ (fun _ h => st_pk 1 [0] (by decide) h)

def op_PutRecord (a0 : api_Record) : Option Str :=
  (wire_Num a0.Seq).bind fun r1 => (wire_Num a0.Now).bind fun r3 => if r1.length + r3.length ≤ maxS then (wire_Num a0.Session).bind fun r7 => if (r1 ++ r3).length + r7.length ≤ maxS then (wire_Num a0.Num).bind fun r11 => if ((r1 ++ r3) ++ r7).length + r11.length ≤ maxS then (op_Put a0.Op).bind fun r15 => if (((r1 ++ r3) ++ r7) ++ r11).length + r15.length ≤ maxS then some ((((r1 ++ r3) ++ r7) ++ r11) ++ r15) else none else none else none else none
theorem op_PutRecord.ok {G R F} (a0 : api_Record) (r : Str) (hm : op_PutRecord a0 = some r) : CO Try.prog 84 [.agg (api_Record.c a0).toArray] G R (F)
    (Ret fun u R' L' => u = vS r ∧ R' = R ∧ L' = F) := by
  unfold op_PutRecord at hm
  refine co_ofN (N := 22) Try.func84 rfl rfl ?_
  refine c_seq ?_
  refine c_reg ?_
  refine r_new (o_bx (api_Record.c a0) rfl rfl) fun b0 => ?_
  refine r_u (o_as rfl) ?_
  refine r_nil ?_
  refine x_seq ?_
  refine c_seq ?_
  obtain ⟨r1, hr1, hm2⟩ := bs hm
  clear hm
  obtain ⟨r3, hr3, hm4⟩ := bs hm2
  clear hm2
  obtain ⟨h5, hm6⟩ := ig hm4
  clear hm4
  obtain ⟨r7, hr7, hm8⟩ := bs hm6
  clear hm6
  obtain ⟨h9, hm10⟩ := ig hm8
  clear hm8
  obtain ⟨r11, hr11, hm12⟩ := bs hm10
  clear hm10
  obtain ⟨h13, hm14⟩ := ig hm12
  clear hm12
  obtain ⟨r15, hr15, hm16⟩ := bs hm14
  clear hm14
  obtain ⟨h17, hm18⟩ := ig hm16
  clear hm16
  refine c_any mixed (effs := []) (V := []) ?_
  refine stage_ext [(0, pt b0 0), (1, vW a0.Seq), (2, vS r1), (3, pt b0 1), (4, vW a0.Now), (5, vS r3), (6, vS (r1 ++ r3)), (7, pt b0 2), (8, vW a0.Session), (9, vS r7), (10, vS ((r1 ++ r3) ++ r7)), (11, pt b0 3), (12, vW a0.Num), (13, vS r11), (14, vS (((r1 ++ r3) ++ r7) ++ r11)), (15, pt b0 4), (16, .agg (api_Op.c a0.Op).toArray), (17, vS r15), (18, vS ((((r1 ++ r3) ++ r7) ++ r11) ++ r15)), (19, vS ((((r1 ++ r3) ++ r7) ++ r11) ++ r15))] rfl ?_
  refine stage rfl rfl rfl rfl [0, 1, 3, 0, 8, 31, 63, 0, 128, 447, 1023, 0, 2048, 7103, 16383, 0, 32768, 113599, 262143, 524287] [0, 1, 2, 3, 4, 5, 6, 7, 8, 9, 10, 11, 12, 13, 14, 15, 16, 17, 18, 19] [] rfl rfl rfl (qc rfl rfl (s_u (o_fa fa89_0 rfl)) (qc rfl rfl (s_u (o_ld 0 sc22 rfl rfl rfl)) (qc rfl rfl (s_u (o_callq ca68 rfl (wire_Num.ok a0.Seq r1 hr1))) (qc rfl rfl (s_u (o_fa fa89_1 rfl)) (qc rfl rfl (s_u (o_ld 0 sc22 rfl rfl rfl)) (qc rfl rfl (s_u (o_callq ca68 rfl (wire_Num.ok a0.Now r3 hr3))) (qc rfl rfl (s_u (o_bin rfl rfl (bS_add r1 r3 h5))) (qc rfl rfl (s_u (o_fa fa89_2 rfl)) (qc rfl rfl (s_u (o_ld 0 sc22 rfl rfl rfl)) (qc rfl rfl (s_u (o_callq ca68 rfl (wire_Num.ok a0.Session r7 hr7))) (qc rfl rfl (s_u (o_bin rfl rfl (bS_add (r1 ++ r3) r7 h9))) (qc rfl rfl (s_u (o_fa fa89_3 rfl)) (qc rfl rfl (s_u (o_ld 0 sc22 rfl rfl rfl)) (qc rfl rfl (s_u (o_callq ca68 rfl (wire_Num.ok a0.Num r11 hr11))) (qc rfl rfl (s_u (o_bin rfl rfl (bS_add ((r1 ++ r3) ++ r7) r11 h13))) (qc rfl rfl (s_u (o_fa fa89_4 rfl)) (qc rfl rfl (s_u (o_ldn 0 (api_Op.c a0.Op) ag32 rfl rfl rfl rfl)) (qc rfl rfl (s_u (o_callq ca86 rfl (op_Put.ok a0.Op r15 hr15))) (qc rfl rfl (s_u (o_bin rfl rfl (bS_add (((r1 ++ r3) ++ r7) ++ r11) r15 h17))) (qc rfl rfl (s_u (o_as rfl)) qn)))))))))))))))))))) en ?_
  intro _
  refine ex_sub (E' := [(2, vS ((((r1 ++ r3) ++ r7) ++ r11) ++ r15))]) ⟨rfl, trivial⟩ ?_
  refine x_seq ?_
  refine c_ret ?_
  obtain rfl := Option.some.inj hm18
  refine ex_st (fun _ h => st_pk 1 [] (by decide) h) ?_
  exact x_r1 rfl (rv_t rfl) (Le.refl _) ⟨_, rfl, rfl, rfl, rfl⟩

def say_list_api_Record_f84_l0 (a0 : List api_Record) : Nat → Str → Int → Option (Str)
  | 0, _, _ => none
  | k8 + 1, s_6, s_7 => if decide (s_7 < (a0.length : Int)) then (gi a0 s_7).bind fun x13 => (op_PutRecord x13).bind fun r16 => if s_6.length + r16.length ≤ maxS then say_list_api_Record_f84_l0 a0 k8 (s_6 ++ r16) (i64 (s_7 + 1)) else none else some s_6
def say_list_api_Record_f84 (a0 : List api_Record) : Option Str :=
  (wire_Num (toW (a0.length : Int))).bind fun r0 => Option.bind (say_list_api_Record_f84_l0 a0 (((a0.length : Int) - 0).toNat + 1) r0 0) fun p2 => some p2
theorem say_list_api_Record_f84.ok {G R F} (v0_ : Value) (a0 : List api_Record) (h0_ : RoS R v0_ 9 api_Record.c a0) (r : Str) (hm : say_list_api_Record_f84 a0 = some r) : CO Try.prog 83 [v0_, (.func (.func 84) #[] #[])] G R (F)
    (Ret fun u R' L' => u = vS r ∧ R' = R ∧ L' = F) := by
  unfold say_list_api_Record_f84 at hm
  refine co_ofN (N := 25) Try.func83 rfl rfl ?_
  refine c_seq ?_
  refine c_reg ?_
  refine r_u (o_as rfl) ?_
  refine r_nil ?_
  refine x_seq ?_
  refine c_seq ?_
  refine c_reg ?_
  refine r_u (o_mv rfl) ?_
  refine r_u (o_lenR Try.underlying27 rfl h0_) ?_
  refine r_u (o_cv rfl (cIW Try.underlying3 Try.underlying22 (a0.length : Int))) ?_
  obtain ⟨r0, hr0, hm1⟩ := bs hm
  clear hm
  refine r_u (o_callq ca68 rfl (wire_Num.ok (toW (a0.length : Int)) r0 hr0)) ?_
  refine r_u (o_as rfl) ?_
  refine r_nil ?_
  refine x_seq ?_
  refine c_seq ?_
  refine c_seq ?_
  refine c_reg ?_
  refine r_u (o_mv rfl) ?_
  refine r_u (o_lenR Try.underlying27 rfl h0_) ?_
  refine r_u (o_mv rfl) ?_
  refine r_nil ?_
  refine x_seq ?_
  obtain ⟨p2, hp3, hm4⟩ := bs hm1
  refine cd_join (E' := [(5, vS p2)]) (L' := F) ?_ fun K5 => ?_
  · refine x_seq ?_
    refine c_seq ?_
    refine c_reg ?_
    refine r_u (o_mv rfl) ?_
    refine r_u (o_as rfl) ?_
    refine r_nil ?_
    refine x_seq ?_
    refine c_ret ?_
    obtain rfl := Option.some.inj hm4
    exact x_r1 rfl (rv_t rfl) (Le.refl _) ⟨_, rfl, rfl, rfl, rfl⟩
  · refine c_blk ?_
    refine cd_loop (M := fun k8 (s : Str × Int) => say_list_api_Record_f84_l0 a0 k8 s.1 s.2 = some p2) (Ef := fun (s : Str × Int) => [(1, .func (.func 84) #[] #[]), (12, v0_), (13, vI (a0.length : Int)), (5, vS s.1), (14, vI s.2)]) (Lf := fun (s : Str × Int) => F) (((a0.length : Int) - 0).toNat + 1) (r0, 0) hp3 ⟨rfl, rfl, rfl, rfl, rfl, trivial⟩ (fun _ h => h) (fun _ h => by cases h) fun k8 s hM10 => ?_
    obtain ⟨s_6, s_7⟩ := s
    have hm9 : say_list_api_Record_f84_l0 a0 (k8 + 1) s_6 s_7 = some p2 := hM10
    rw [say_list_api_Record_f84_l0] at hm9
    refine c_seq ?_
    refine c_reg ?_
    refine r_u (o_bin rfl rfl (bI_lt s_7 (a0.length : Int))) ?_
    refine r_nil ?_
    refine x_seq ?_
    refine c_seq ?_
    refine c_if (b := decide (s_7 < (a0.length : Int))) rfl (fun h11 => ?_) fun h11 => ?_
    · have hm12 := ift hm9 h11
      clear hm9
      refine c_skip ?_
      refine x_seq ?_
      refine c_seq ?_
      refine c_blk ?_
      refine c_seq ?_
      refine c_reg ?_
      obtain ⟨x13, hx13, hm14⟩ := bs hm12
      clear hm12
      obtain ⟨b13, o13, l13, T13, fr13, c13, hv13, hR13, he13, hi13⟩ := RoS.ne h0_ hx13
      refine r_u (o_ix (sz := 9) Try.underlying27 (fun _ => by kernel_rfl) rfl rfl hv13 hi13) ?_
      refine r_u (o_ldnR (api_Record.c x13) ag89 rfl hR13 he13 rfl) ?_
      refine r_new (o_al ze89) fun b15 => ?_
      refine r_u0 (o_stn ag89 rfl rfl rfl rfl rfl rfl rfl) ?_
      refine r_nil ?_
      refine x_seq ?_
      refine c_reg ?_
      refine r_u (o_mv rfl) ?_
      refine r_u (o_mv rfl) ?_
      refine r_u (o_ldn 0 (api_Record.c x13) ag89 rfl rfl rfl rfl) ?_
      obtain ⟨r16, hr16, hm17⟩ := bs hm14
      clear hm14
      refine r_u (o_callqV rfl ca84 rfl (op_PutRecord.ok x13 r16 hr16)) ?_
      obtain ⟨h18, hm19⟩ := ig hm17
      clear hm17
      refine r_u (o_bin rfl rfl (bS_add s_6 r16 h18)) ?_
      refine r_u (o_as rfl) ?_
      refine r_nil ?_
      refine x_blk ?_
      refine x_seq ?_
      refine c_reg ?_
      refine r_u (o_bin rfl rfl (bI_add s_7 1)) ?_
      refine r_u (o_mv rfl) ?_
      refine r_nil ?_
      exact x_lp (s_6 ++ r16, i64 (s_7 + 1)) hm19 ⟨rfl, rfl, rfl, rfl, rfl, trivial⟩ (fun _ h => st_pk 1 [] (by decide) h)
    · have hm12 := iff_ hm9 h11
      clear hm9
      refine c_exit (x_exit (ks' := _) rfl ?_)
      obtain rfl := Option.some.inj hm12
      exact x_sub K5 ⟨rfl, trivial⟩ (fun _ h => st_pk 0 [] (by decide) h)

def say_putPiece (a0 : api_Piece) : Option Str :=
  (wire_Num (toW a0.N)).bind fun r1 => (wire_Num (toW a0.Of)).bind fun r3 => if r1.length + r3.length ≤ maxS then (wire_Text a0.Data).bind fun r7 => if (r1 ++ r3).length + r7.length ≤ maxS then if ((r1 ++ r3) ++ r7).length + a0.Sum.length ≤ maxS then if (((r1 ++ r3) ++ r7) ++ a0.Sum).length + a0.Whole.length ≤ maxS then some ((((r1 ++ r3) ++ r7) ++ a0.Sum) ++ a0.Whole) else none else none else none else none
theorem say_putPiece.ok {G R F} (a0 : api_Piece) (r : Str) (hm : say_putPiece a0 = some r) : CO Try.prog 85 [.agg (api_Piece.c a0).toArray] G R (F)
    (Ret fun u R' L' => u = vS r ∧ R' = R ∧ L' = F) := by
  unfold say_putPiece at hm
  refine co_ofN (N := 22) Try.func85 rfl rfl ?_
  refine c_seq ?_
  refine c_reg ?_
  refine r_new (o_bx (api_Piece.c a0) rfl rfl) fun b0 => ?_
  refine r_u (o_as rfl) ?_
  refine r_nil ?_
  refine x_seq ?_
  refine c_seq ?_
  obtain ⟨r1, hr1, hm2⟩ := bs hm
  clear hm
  obtain ⟨r3, hr3, hm4⟩ := bs hm2
  clear hm2
  obtain ⟨h5, hm6⟩ := ig hm4
  clear hm4
  obtain ⟨r7, hr7, hm8⟩ := bs hm6
  clear hm6
  obtain ⟨h9, hm10⟩ := ig hm8
  clear hm8
  obtain ⟨h11, hm12⟩ := ig hm10
  clear hm10
  obtain ⟨h13, hm14⟩ := ig hm12
  clear hm12
  refine c_any mixed (effs := []) (V := []) ?_
  refine stage_ext [(0, pt b0 0), (1, vI a0.N), (2, vW (toW a0.N)), (3, vS r1), (4, pt b0 1), (5, vI a0.Of), (6, vW (toW a0.Of)), (7, vS r3), (8, vS (r1 ++ r3)), (9, pt b0 2), (10, vS a0.Data), (11, vS r7), (12, vS ((r1 ++ r3) ++ r7)), (13, pt b0 3), (14, vS a0.Sum), (15, vS (((r1 ++ r3) ++ r7) ++ a0.Sum)), (16, pt b0 4), (17, vS a0.Whole), (18, vS ((((r1 ++ r3) ++ r7) ++ a0.Sum) ++ a0.Whole)), (19, vS ((((r1 ++ r3) ++ r7) ++ a0.Sum) ++ a0.Whole))] rfl ?_
  refine stage rfl rfl rfl rfl [0, 1, 3, 7, 0, 16, 48, 127, 255, 0, 512, 1791, 4095, 0, 8192, 32767, 0, 65536, 262143, 524287] [0, 1, 2, 3, 4, 5, 6, 7, 8, 9, 10, 11, 12, 13, 14, 15, 16, 17, 18, 19] [] rfl rfl rfl (qc rfl rfl (s_u (o_fa fa29_0 rfl)) (qc rfl rfl (s_u (o_ld 0 sc3 rfl rfl rfl)) (qc rfl rfl (s_u (o_cv rfl (cIW Try.underlying3 Try.underlying22 a0.N))) (qc rfl rfl (s_u (o_callq ca68 rfl (wire_Num.ok (toW a0.N) r1 hr1))) (qc rfl rfl (s_u (o_fa fa29_1 rfl)) (qc rfl rfl (s_u (o_ld 0 sc3 rfl rfl rfl)) (qc rfl rfl (s_u (o_cv rfl (cIW Try.underlying3 Try.underlying22 a0.Of))) (qc rfl rfl (s_u (o_callq ca68 rfl (wire_Num.ok (toW a0.Of) r3 hr3))) (qc rfl rfl (s_u (o_bin rfl rfl (bS_add r1 r3 h5))) (qc rfl rfl (s_u (o_fa fa29_2 rfl)) (qc rfl rfl (s_u (o_ld 0 sc9 rfl rfl rfl)) (qc rfl rfl (s_u (o_callq ca88 rfl (wire_Text.ok a0.Data r7 hr7))) (qc rfl rfl (s_u (o_bin rfl rfl (bS_add (r1 ++ r3) r7 h9))) (qc rfl rfl (s_u (o_fa fa29_3 rfl)) (qc rfl rfl (s_u (o_ld 0 sc9 rfl rfl rfl)) (qc rfl rfl (s_u (o_bin rfl rfl (bS_add ((r1 ++ r3) ++ r7) a0.Sum h11))) (qc rfl rfl (s_u (o_fa fa29_4 rfl)) (qc rfl rfl (s_u (o_ld 0 sc9 rfl rfl rfl)) (qc rfl rfl (s_u (o_bin rfl rfl (bS_add (((r1 ++ r3) ++ r7) ++ a0.Sum) a0.Whole h13))) (qc rfl rfl (s_u (o_as rfl)) qn)))))))))))))))))))) en ?_
  intro _
  refine ex_sub (E' := [(2, vS ((((r1 ++ r3) ++ r7) ++ a0.Sum) ++ a0.Whole))]) ⟨rfl, trivial⟩ ?_
  refine x_seq ?_
  refine c_ret ?_
  obtain rfl := Option.some.inj hm14
  refine ex_st (fun _ h => st_pk 1 [] (by decide) h) ?_
  exact x_r1 rfl (rv_t rfl) (Le.refl _) ⟨_, rfl, rfl, rfl, rfl⟩

def op_PutReply (a0 : api_Reply) : Option Str :=
  (wire_Num (toW a0.E)).bind fun r1 => (wire_Text a0.Value).bind fun r3 => if r1.length + r3.length ≤ maxS then (wire_Num a0.Version).bind fun r7 => if (r1 ++ r3).length + r7.length ≤ maxS then some ((r1 ++ r3) ++ r7) else none else none
theorem op_PutReply.ok {G R F} (a0 : api_Reply) (r : Str) (hm : op_PutReply a0 = some r) : CO Try.prog 87 [.agg (api_Reply.c a0).toArray] G R (F)
    (Ret fun u R' L' => u = vS r ∧ R' = R ∧ L' = F) := by
  unfold op_PutReply at hm
  refine co_ofN (N := 15) Try.func87 rfl rfl ?_
  refine c_seq ?_
  refine c_reg ?_
  refine r_new (o_bx (api_Reply.c a0) rfl rfl) fun b0 => ?_
  refine r_u (o_as rfl) ?_
  refine r_nil ?_
  refine x_seq ?_
  refine c_seq ?_
  obtain ⟨r1, hr1, hm2⟩ := bs hm
  clear hm
  obtain ⟨r3, hr3, hm4⟩ := bs hm2
  clear hm2
  obtain ⟨h5, hm6⟩ := ig hm4
  clear hm4
  obtain ⟨r7, hr7, hm8⟩ := bs hm6
  clear hm6
  obtain ⟨h9, hm10⟩ := ig hm8
  clear hm8
  refine c_any mixed (effs := []) (V := []) ?_
  refine stage_ext [(0, pt b0 0), (1, vI a0.E), (2, vW (toW a0.E)), (3, vS r1), (4, pt b0 1), (5, vS a0.Value), (6, vS r3), (7, vS (r1 ++ r3)), (8, pt b0 2), (9, vW a0.Version), (10, vS r7), (11, vS ((r1 ++ r3) ++ r7)), (12, vS ((r1 ++ r3) ++ r7))] rfl ?_
  refine stage rfl rfl rfl rfl [0, 1, 3, 7, 0, 16, 63, 127, 0, 256, 895, 2047, 4095] [0, 1, 2, 3, 4, 5, 6, 7, 8, 9, 10, 11, 12] [] rfl rfl rfl (qc rfl rfl (s_u (o_fa fa35_0 rfl)) (qc rfl rfl (s_u (o_ld 0 sc33 rfl rfl rfl)) (qc rfl rfl (s_u (o_cv rfl (cIW Try.underlying33 Try.underlying22 a0.E))) (qc rfl rfl (s_u (o_callq ca68 rfl (wire_Num.ok (toW a0.E) r1 hr1))) (qc rfl rfl (s_u (o_fa fa35_1 rfl)) (qc rfl rfl (s_u (o_ld 0 sc9 rfl rfl rfl)) (qc rfl rfl (s_u (o_callq ca88 rfl (wire_Text.ok a0.Value r3 hr3))) (qc rfl rfl (s_u (o_bin rfl rfl (bS_add r1 r3 h5))) (qc rfl rfl (s_u (o_fa fa35_2 rfl)) (qc rfl rfl (s_u (o_ld 0 sc22 rfl rfl rfl)) (qc rfl rfl (s_u (o_callq ca68 rfl (wire_Num.ok a0.Version r7 hr7))) (qc rfl rfl (s_u (o_bin rfl rfl (bS_add (r1 ++ r3) r7 h9))) (qc rfl rfl (s_u (o_as rfl)) qn))))))))))))) en ?_
  intro _
  refine ex_sub (E' := [(2, vS ((r1 ++ r3) ++ r7))]) ⟨rfl, trivial⟩ ?_
  refine x_seq ?_
  refine c_ret ?_
  obtain rfl := Option.some.inj hm10
  refine ex_st (fun _ h => st_pk 1 [] (by decide) h) ?_
  exact x_r1 rfl (rv_t rfl) (Le.refl _) ⟨_, rfl, rfl, rfl, rfl⟩

end Go.Proofs.Ythngfieikhillaa
