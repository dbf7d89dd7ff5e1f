import Derived.Test.YtbldbopiofinbaaFacts
import Derived.Test.YtbldbopiofinbaaHwG
set_option linter.unusedVariables false
set_option linter.unusedSimpArgs false
set_option maxRecDepth 100000
set_option maxHeartbeats 8000000
namespace Go.Proofs.Ytbldbopiofinbaa
open Go Go.Proofs.Ytbldbopiofinbaa.Hw
structure api_View where
  V : UInt64
  Primary : Int
  PLife : UInt64
  Backup : Int
  BLife : UInt64
  Epoch : UInt64
  deriving DecidableEq, Inhabited
def api_View.c (x : api_View) : List _root_.Go.Value := [vW x.V, vI x.Primary, vW x.PLife, vI x.Backup, vW x.BLife, vW x.Epoch]
structure cell_Cell where
  chosen : api_View
  most : UInt64
  ballot : UInt64
  value : api_View
  deriving DecidableEq, Inhabited
def cell_Cell.c (x : cell_Cell) : List _root_.Go.Value := [vW x.chosen.V, vI x.chosen.Primary, vW x.chosen.PLife, vI x.chosen.Backup, vW x.chosen.BLife, vW x.chosen.Epoch, vW x.most, vW x.ballot, vW x.value.V, vI x.value.Primary, vW x.value.PLife, vI x.value.Backup, vW x.value.BLife, vW x.value.Epoch]
structure api_Promise where
  OK : Bool
  V : UInt64
  Most : UInt64
  Ballot : UInt64
  Value : api_View
  Chosen : api_View
  deriving DecidableEq, Inhabited
def api_Promise.c (x : api_Promise) : List _root_.Go.Value := [vB x.OK, vW x.V, vW x.Most, vW x.Ballot, vW x.Value.V, vI x.Value.Primary, vW x.Value.PLife, vI x.Value.Backup, vW x.Value.BLife, vW x.Value.Epoch, vW x.Chosen.V, vI x.Chosen.Primary, vW x.Chosen.PLife, vI x.Chosen.Backup, vW x.Chosen.BLife, vW x.Chosen.Epoch]
theorem api_View.eqt25 (d : Nat) (a b : api_View) : EqT Try.prog (d + 1) 25 (.agg (api_View.c a).toArray) (.agg (api_View.c b).toArray) (decide (a = b)) :=
  EqT.st Try.underlying25 Try.stoodInHeld25 (EqF.cons (a := vW a.V) (b := vW b.V) (fun _ => by kernel_rfl) (fun _ => by kernel_rfl) rfl (EqT.W _ Try.underlying23 _ _) <| EqF.cons (a := vI a.Primary) (b := vI b.Primary) (fun _ => by kernel_rfl) (fun _ => by kernel_rfl) rfl (EqT.I _ Try.underlying3 _ _) <| EqF.cons (a := vW a.PLife) (b := vW b.PLife) (fun _ => by kernel_rfl) (fun _ => by kernel_rfl) rfl (EqT.W _ Try.underlying23 _ _) <| EqF.cons (a := vI a.Backup) (b := vI b.Backup) (fun _ => by kernel_rfl) (fun _ => by kernel_rfl) rfl (EqT.I _ Try.underlying3 _ _) <| EqF.cons (a := vW a.BLife) (b := vW b.BLife) (fun _ => by kernel_rfl) (fun _ => by kernel_rfl) rfl (EqT.W _ Try.underlying23 _ _) <| EqF.cons (a := vW a.Epoch) (b := vW b.Epoch) (fun _ => by kernel_rfl) (fun _ => by kernel_rfl) rfl (EqT.W _ Try.underlying23 _ _) <| EqF.nil) (by cases a; cases b; rw [Bool.eq_iff_iff]; simp)
theorem api_View.beq_25 (a b : api_View) : Bop Try.prog .eql 25 (.agg (api_View.c a).toArray) (.agg (api_View.c b).toArray) (vB (decide (a = b))) := EqT.bop Try.eqGuardType25 (api_View.eqt25 9998 a b)
theorem api_View.bne_25 (a b : api_View) : Bop Try.prog .neq 25 (.agg (api_View.c a).toArray) (.agg (api_View.c b).toArray) (vB (!decide (a = b))) := EqT.bon Try.eqGuardType25 (api_View.eqt25 9998 a b)
theorem api_Promise.eqt33 (d : Nat) (a b : api_Promise) : EqT Try.prog (d + 2) 33 (.agg (api_Promise.c a).toArray) (.agg (api_Promise.c b).toArray) (decide (a = b)) :=
  EqT.st Try.underlying33 Try.stoodInHeld33 (EqF.cons (a := vB a.OK) (b := vB b.OK) (fun _ => by kernel_rfl) (fun _ => by kernel_rfl) rfl (EqT.B _ Try.underlying4 _ _) <| EqF.cons (a := vW a.V) (b := vW b.V) (fun _ => by kernel_rfl) (fun _ => by kernel_rfl) rfl (EqT.W _ Try.underlying23 _ _) <| EqF.cons (a := vW a.Most) (b := vW b.Most) (fun _ => by kernel_rfl) (fun _ => by kernel_rfl) rfl (EqT.W _ Try.underlying23 _ _) <| EqF.cons (a := vW a.Ballot) (b := vW b.Ballot) (fun _ => by kernel_rfl) (fun _ => by kernel_rfl) rfl (EqT.W _ Try.underlying23 _ _) <| EqF.cons (a := .agg (api_View.c a.Value).toArray) (b := .agg (api_View.c b.Value).toArray) (fun _ => by kernel_rfl) (fun _ => by kernel_rfl) rfl (api_View.eqt25 (d + 0) a.Value b.Value) <| EqF.cons (a := .agg (api_View.c a.Chosen).toArray) (b := .agg (api_View.c b.Chosen).toArray) (fun _ => by kernel_rfl) (fun _ => by kernel_rfl) rfl (api_View.eqt25 (d + 0) a.Chosen b.Chosen) <| EqF.nil) (by cases a; cases b; rw [Bool.eq_iff_iff]; simp)
theorem api_Promise.beq_33 (a b : api_Promise) : Bop Try.prog .eql 33 (.agg (api_Promise.c a).toArray) (.agg (api_Promise.c b).toArray) (vB (decide (a = b))) := EqT.bop Try.eqGuardType33 (api_Promise.eqt33 9997 a b)
theorem api_Promise.bne_33 (a b : api_Promise) : Bop Try.prog .neq 33 (.agg (api_Promise.c a).toArray) (.agg (api_Promise.c b).toArray) (vB (!decide (a = b))) := EqT.bon Try.eqGuardType33 (api_Promise.eqt33 9997 a b)

def cell_Check (a0 : api_View) : Bool :=
  (((decide (1 ≤ a0.V) && decide (1 ≤ a0.Epoch)) && ((decide (0 ≤ a0.Primary) && decide (a0.Primary < 1048576)) && decide (1 ≤ a0.PLife))) && (((a0.Backup == (-1)) && (a0.BLife == 0)) || (((decide (0 ≤ a0.Backup) && decide (a0.Backup < 1048576)) && decide (1 ≤ a0.BLife)) && (a0.Backup != a0.Primary))))
theorem cell_Check.ok {G R F} (a0 : api_View) (r : Bool) (hm : cell_Check a0 = r) : CO Try.prog 11 [.agg (api_View.c a0).toArray] G R (F)
    (Ret fun u R' L' => u = vB r ∧ R' = R ∧ L' = F) := by
  unfold cell_Check at hm
  refine co_ofN (N := 62) Try.func11 rfl rfl ?_
  refine c_seq ?_
  refine c_reg ?_
  refine r_new (o_bx (api_View.c a0) rfl rfl) fun b0 => ?_
  refine r_u (o_as rfl) ?_
  refine r_nil ?_
  refine x_seq ?_
  refine c_seq ?_
  refine c_reg ?_
  refine r_u (o_fa fa25_1 rfl) ?_
  refine r_u (o_ld 0 sc3 rfl rfl rfl) ?_
  refine r_u (o_bin rfl rfl (bI_ge a0.Primary 0)) ?_
  refine r_u (o_mv rfl) ?_
  refine r_s (s_gt rfl rfl fun g => o_fa fa25_1 rfl) ?_
  refine r_s (s_gt rfl rfl fun g => o_ld 0 sc3 (evg rfl g) rfl rfl) ?_
  refine r_s (s_gt rfl rfl fun g => o_bin (evg rfl g) rfl (bI_lt a0.Primary 1048576)) ?_
  refine r_u (o_and rfl rfl) ?_
  refine r_u (o_mv rfl) ?_
  refine r_s (s_gt rfl rfl fun g => o_fa fa25_2 rfl) ?_
  refine r_s (s_gt rfl rfl fun g => o_ld 0 sc23 (evg rfl g) rfl rfl) ?_
  refine r_s (s_gt rfl rfl fun g => o_bin (evg rfl g) rfl (bW_ge a0.PLife 1)) ?_
  refine r_u (o_and rfl rfl) ?_
  refine r_u (o_as rfl) ?_
  refine r_nil ?_
  refine x_seq ?_
  refine c_seq ?_
  refine c_reg ?_
  refine r_u (o_fa fa25_3 rfl) ?_
  refine r_u (o_ld 0 sc3 rfl rfl rfl) ?_
  refine r_u (o_bin rfl rfl (bI_eq a0.Backup (-1))) ?_
  refine r_u (o_mv rfl) ?_
  refine r_s (s_gt rfl rfl fun g => o_fa fa25_4 rfl) ?_
  refine r_s (s_gt rfl rfl fun g => o_ld 0 sc23 (evg rfl g) rfl rfl) ?_
  refine r_s (s_gt rfl rfl fun g => o_bin (evg rfl g) rfl (bW_eq a0.BLife 0)) ?_
  refine r_u (o_and rfl rfl) ?_
  refine r_u (o_mv rfl) ?_
  refine r_s (s_gf rfl rfl fun g => o_fa fa25_3 rfl) ?_
  refine r_s (s_gf rfl rfl fun g => o_ld 0 sc3 (evg rfl g) rfl rfl) ?_
  refine r_s (s_gf rfl rfl fun g => o_bin (evg rfl g) rfl (bI_ge a0.Backup 0)) ?_
  refine r_s (s_gf rfl rfl fun g => o_mv (evg rfl g)) ?_
  refine r_s (s_ggt rfl rfl fun g => o_fa fa25_3 rfl) ?_
  refine r_s (s_ggt rfl rfl fun g => o_ld 0 sc3 (evg rfl g) rfl rfl) ?_
  refine r_s (s_ggt rfl rfl fun g => o_bin (evg rfl g) rfl (bI_lt a0.Backup 1048576)) ?_
  refine r_s (s_gf rfl rfl fun g => o_and (evg rfl g) (evg2 rfl g)) ?_
  refine r_s (s_gf rfl rfl fun g => o_mv (evg rfl g)) ?_
  refine r_s (s_ggt rfl rfl fun g => o_fa fa25_4 rfl) ?_
  refine r_s (s_ggt rfl rfl fun g => o_ld 0 sc23 (evg rfl g) rfl rfl) ?_
  refine r_s (s_ggt rfl rfl fun g => o_bin (evg rfl g) rfl (bW_ge a0.BLife 1)) ?_
  refine r_s (s_gf rfl rfl fun g => o_and (evg rfl g) (evg2 rfl g)) ?_
  refine r_s (s_gf rfl rfl fun g => o_mv (evg rfl g)) ?_
  refine r_s (s_ggt rfl rfl fun g => o_fa fa25_3 rfl) ?_
  refine r_s (s_ggt rfl rfl fun g => o_ld 0 sc3 (evg rfl g) rfl rfl) ?_
  refine r_s (s_ggt rfl rfl fun g => o_fa fa25_1 rfl) ?_
  refine r_s (s_ggt rfl rfl fun g => o_ld 0 sc3 (evg rfl g) rfl rfl) ?_
  refine r_s (s_ggt rfl rfl fun g => o_bin (evg rfl g) (evg rfl g) (bI_ne a0.Backup a0.Primary)) ?_
  refine r_s (s_gf rfl rfl fun g => o_and (evg rfl g) (evg2 rfl g)) ?_
  refine r_u (o_or rfl rfl) ?_
  refine r_u (o_as rfl) ?_
  refine r_nil ?_
  refine x_seq ?_
  refine c_seq ?_
  refine c_reg ?_
  refine r_u (o_fa fa25_0 rfl) ?_
  refine r_u (o_ld 0 sc23 rfl rfl rfl) ?_
  refine r_u (o_bin rfl rfl (bW_ge a0.V 1)) ?_
  refine r_u (o_mv rfl) ?_
  refine r_s (s_gt rfl rfl fun g => o_fa fa25_5 rfl) ?_
  refine r_s (s_gt rfl rfl fun g => o_ld 0 sc23 (evg rfl g) rfl rfl) ?_
  refine r_s (s_gt rfl rfl fun g => o_bin (evg rfl g) rfl (bW_ge a0.Epoch 1)) ?_
  refine r_u (o_and rfl rfl) ?_
  refine r_u (o_mv rfl) ?_
  refine r_s (s_gt rfl rfl fun g => o_mv rfl) ?_
  refine r_u (o_and rfl rfl) ?_
  refine r_u (o_mv rfl) ?_
  refine r_s (s_gt rfl rfl fun g => o_mv rfl) ?_
  refine r_u (o_and rfl rfl) ?_
  refine r_u (o_as rfl) ?_
  refine r_nil ?_
  refine x_seq ?_
  refine c_ret ?_
  subst hm
  refine ex_st (fun _ h => st_pk 1 [] (by decide) h) ?_
  exact x_r1 rfl (rv_t rfl) (Le.refl _) ⟨_, rfl, rfl, rfl, rfl⟩

def cell_New (a0 : api_View) : Option cell_Cell × Int :=
  if !(cell_Check a0) then (none, 1) else (some (⟨a0, 0, 0, (⟨0, 0, 0, 0, 0, 0⟩ : api_View)⟩ : cell_Cell), 0)
theorem cell_New.ok {G R F} (a0 : api_View) (r : Option cell_Cell × Int) (hm : cell_New a0 = r) : CO Try.prog 6 [.agg (api_View.c a0).toArray] G R (F)
    (Ret fun u R' L' => ∃ p0, u = .tuple #[p0, vI r.2] ∧ R' = R ∧ L' = rO (fun b x => Bk b 42 (cell_Cell.c x)) p0 r.1 :: F) := by
  unfold cell_New at hm
  refine co_ofN (N := 10) Try.func6 rfl rfl ?_
  refine c_seq ?_
  refine c_reg ?_
  refine r_new (o_bx (api_View.c a0) rfl rfl) fun b0 => ?_
  refine r_u (o_as rfl) ?_
  refine r_u (o_as rfl) ?_
  refine r_nil ?_
  refine x_seq ?_
  refine c_seq ?_
  refine c_seq ?_
  refine c_reg ?_
  refine r_u (o_ldn 0 (api_View.c a0) ag25 rfl rfl rfl rfl) ?_
  refine r_u (o_callq ca11 rfl (cell_Check.ok a0 _ rfl)) ?_
  refine r_u (o_not rfl) ?_
  refine r_nil ?_
  refine x_seq ?_
  refine c_if (b := !(cell_Check a0)) rfl (fun h1 => ?_) fun h1 => ?_
  · have hm2 := ift hm h1
    refine c_seq ?_
    refine c_reg ?_
    refine r_u (o_as rfl) ?_
    refine r_u (o_as rfl) ?_
    refine r_nil ?_
    refine x_seq ?_
    refine c_ret ?_
    subst hm2
    refine ex_st (fun _ h => st_pk 1 [] (by decide) h) ?_
    refine ex_st (fun _ h => st_none (f := fun b x => Bk b 42 (cell_Cell.c x)) h) ?_
    exact x_r2 rfl (rv_t rfl) (rv_t rfl) (Le.refl _) ⟨_, rfl, _, rfl, rfl, rfl⟩
  · have hm2 := iff_ hm h1
    refine c_skip ?_
    refine x_seq ?_
    refine c_seq ?_
    refine c_reg ?_
    refine r_u (o_ldn 0 (api_View.c a0) ag25 rfl rfl rfl rfl) ?_
    refine r_u (o_bld [vW a0.V, vI a0.Primary, vW a0.PLife, vI a0.Backup, vW a0.BLife, vW a0.Epoch, vW 0, vW 0, vW 0, vI 0, vW 0, vI 0, vW 0, vW 0] rfl (fun _ => by kernel_rfl)) ?_
    refine r_new (o_bx [vW a0.V, vI a0.Primary, vW a0.PLife, vI a0.Backup, vW a0.BLife, vW a0.Epoch, vW 0, vW 0, vW 0, vI 0, vW 0, vI 0, vW 0, vW 0] rfl rfl) fun b3 => ?_
    refine r_u (o_as rfl) ?_
    refine r_u (o_as rfl) ?_
    refine r_nil ?_
    refine x_seq ?_
    refine c_ret ?_
    subst hm2
    refine ex_st (fun _ h => st_pk 2 [0] (by decide) h) ?_
    refine ex_st (fun _ h => st_some (f := fun b x => Bk b 42 (cell_Cell.c x)) (a := (⟨a0, 0, 0, (⟨0, 0, 0, 0, 0, 0⟩ : api_View)⟩ : cell_Cell)) h) ?_
    exact x_r2 rfl (rv_t rfl) (rv_t rfl) (Le.refl _) ⟨_, rfl, _, rfl, rfl, rfl⟩

def hawthornlaw16_first  : api_View :=
  (⟨1, 0, 1, (-1), 0, 1⟩ : api_View)
theorem hawthornlaw16_first.ok {G R F} (r : api_View) (hm : hawthornlaw16_first = r) : CO Try.prog 7 [] G R (F)
    (Ret fun u R' L' => u = .agg (api_View.c r).toArray ∧ R' = R ∧ L' = F) := by
  unfold hawthornlaw16_first at hm
  refine co_ofN (N := 2) Try.func7 rfl rfl ?_
  refine c_seq ?_
  refine c_reg ?_
  refine r_new (o_al ze25) fun b0 => ?_
  refine r_nil ?_
  refine x_seq ?_
  refine c_seq ?_
  refine c_reg ?_
  refine r_u (o_bld [vW 1, vI 0, vW 1, vI (-1), vW 0, vW 1] rfl (fun _ => by kernel_rfl)) ?_
  refine r_u0 (o_stn ag25 rfl rfl rfl rfl rfl rfl rfl) ?_
  refine r_nil ?_
  refine x_seq ?_
  refine c_ret ?_
  subst hm
  exact x_d1 rfl (rv_n 0 [vW 1, vI 0, vW 1, vI (-1), vW 0, vW 1] ag25 rfl rfl rfl rfl) (fun _ h => st_pk 1 [] (by decide) h) (Le.refl _) ⟨_, rfl, rfl, rfl, rfl⟩

def cell_Cell_Learn (a0 : cell_Cell) (a1 : api_View) : Bool × cell_Cell :=
  if (!(cell_Check a1) || decide (a1.V ≤ a0.chosen.V)) then (false, a0) else (true, (⟨a1, 0, 0, (⟨0, 0, 0, 0, 0, 0⟩ : api_View)⟩ : cell_Cell))
theorem cell_Cell_Learn.ok {G R F} (b0_ : Nat) (a0 : cell_Cell) (a1 : api_View) (r : Bool × cell_Cell) (hm : cell_Cell_Learn a0 a1 = r) : CO Try.prog 13 [pt b0_ 0, .agg (api_View.c a1).toArray] G R (Bk b0_ 42 (cell_Cell.c a0) :: F)
    (Ret fun u R' L' => u = vB r.1 ∧ R' = R ∧ L' = Bk b0_ 42 (cell_Cell.c r.2) :: F) := by
  unfold cell_Cell_Learn at hm
  refine co_ofN (N := 26) Try.func13 rfl rfl ?_
  refine c_seq ?_
  refine c_reg ?_
  refine r_new (o_bx (api_View.c a1) rfl rfl) fun b0 => ?_
  refine r_u (o_as rfl) ?_
  refine r_nil ?_
  refine x_seq ?_
  refine c_seq ?_
  refine c_seq ?_
  refine c_any mixed (effs := []) (V := []) ?_
  refine stage_ext [(0, pt b0_ 0), (1, vB false), (2, vB false), (3, .agg (api_View.c a1).toArray), (4, vB (cell_Check a1)), (5, vB (!(cell_Check a1))), (6, vB (!(cell_Check a1))), (7, vB (!(cell_Check a1))), (8, gv (!(!(cell_Check a1))) (pt b0 0)), (9, gv (!(!(cell_Check a1))) (vW a1.V)), (10, gv (!(!(cell_Check a1))) (pt b0_ 0)), (11, gv (!(!(cell_Check a1))) (pt b0_ 0)), (12, gv (!(!(cell_Check a1))) (pt b0_ 0)), (13, gv (!(!(cell_Check a1))) (pt b0_ 0)), (14, gv (!(!(cell_Check a1))) (vW a0.chosen.V)), (15, gv (!(!(cell_Check a1))) (vB (decide (a1.V ≤ a0.chosen.V)))), (16, vB (!(cell_Check a1) || decide (a1.V ≤ a0.chosen.V)))] rfl ?_
  refine stage rfl rfl rfl rfl [0, 1, 3, 7, 15, 31, 63, 127, 255, 511, 255, 1279, 3327, 7423, 15615, 32767, 65535] [0, 1, 2, 3, 4, 5, 6, 7, 8, 9, 10, 11, 12, 13, 14, 15, 16] [] rfl rfl rfl (qc rfl rfl (s_u (o_mv rfl)) (qc rfl rfl (s_u (o_bin rfl rfl (bP_eqp Try.underlying26))) (qc rfl rfl (s_u (o_mv rfl)) (qc rfl rfl (s_y rfl rfl rfl (o_ldn 0 (api_View.c a1) ag25 rfl rfl rfl rfl)) (qc rfl rfl (s_y rfl rfl rfl (o_callq ca11 rfl (cell_Check.ok a1 _ rfl))) (qc rfl rfl (s_y rfl rfl rfl (o_not rfl)) (qc rfl rfl (s_u (o_pf rfl rfl rfl)) (qc rfl rfl (s_u (o_mv rfl)) (qc rfl rfl (s_gf rfl rfl fun g => o_fa fa25_0 rfl) (qc rfl rfl (s_gf rfl rfl fun g => o_ld 0 sc23 (evg rfl g) rfl rfl) (qc rfl rfl (s_gf rfl rfl fun g => o_mv rfl) (qc rfl rfl (s_gf rfl rfl fun g => o_nc (evg rfl g)) (qc rfl rfl (s_gf rfl rfl fun g => o_fa fa42_0 (evg rfl g)) (qc rfl rfl (s_gf rfl rfl fun g => o_fa fa25_0 (evg rfl g)) (qc rfl rfl (s_gf rfl rfl fun g => o_ld 1 sc23 (evg rfl g) rfl rfl) (qc rfl rfl (s_gf rfl rfl fun g => o_bin (evg rfl g) (evg rfl g) (bW_le a1.V a0.chosen.V)) (qc rfl rfl (s_u (o_or rfl rfl)) qn))))))))))))))))) en ?_
  intro _
  refine ex_sub (E' := [(0, pt b0_ 0), (3, pt b0 0), (21, vB (!(cell_Check a1) || decide (a1.V ≤ a0.chosen.V)))]) ⟨rfl, rfl, rfl, trivial⟩ ?_
  refine x_seq ?_
  refine c_if (b := (!(cell_Check a1) || decide (a1.V ≤ a0.chosen.V))) rfl (fun h1 => ?_) fun h1 => ?_
  · have hm2 := ift hm h1
    refine c_seq ?_
    refine c_reg ?_
    refine r_u (o_as rfl) ?_
    refine r_nil ?_
    refine x_seq ?_
    refine c_ret ?_
    subst hm2
    refine ex_st (fun _ h => st_pk 2 [1] (by decide) h) ?_
    exact x_r1 rfl (rv_t rfl) (Le.refl _) ⟨_, rfl, rfl, rfl, rfl⟩
  · have hm2 := iff_ hm h1
    refine c_skip ?_
    refine x_seq ?_
    refine c_seq ?_
    refine c_reg ?_
    refine r_u (o_mv rfl) ?_
    refine r_u (o_ldn 0 (api_View.c a1) ag25 rfl rfl rfl rfl) ?_
    refine r_u (o_bld [vW a1.V, vI a1.Primary, vW a1.PLife, vI a1.Backup, vW a1.BLife, vW a1.Epoch, vW 0, vW 0, vW 0, vI 0, vW 0, vI 0, vW 0, vW 0] rfl (fun _ => by kernel_rfl)) ?_
    refine r_u (o_nc rfl) ?_
    refine rl_st (fun _ h => st_pk 2 [1, 0] (by decide) h) ?_
    refine r_u0 (o_stn ag42 rfl rfl rfl rfl rfl rfl rfl) ?_
    refine r_nil ?_
    refine x_seq ?_
    refine c_seq ?_
    refine c_reg ?_
    refine r_u (o_as rfl) ?_
    refine r_nil ?_
    refine x_seq ?_
    refine c_ret ?_
    subst hm2
    refine ex_st (fun _ h => st_pk 2 [0] (by decide) h) ?_
    exact x_r1 rfl (rv_t rfl) (Le.refl _) ⟨_, rfl, rfl, rfl, rfl⟩

def cell_Cell_promise (a0 : cell_Cell) (a1 : Bool) : api_Promise :=
  (⟨a1, a0.chosen.V + 1, a0.most, a0.ballot, a0.value, a0.chosen⟩ : api_Promise)
theorem cell_Cell_promise.ok {G R F} (b0_ : Nat) (a0 : cell_Cell) (a1 : Bool) (r : api_Promise) (hm : cell_Cell_promise a0 a1 = r) : CO Try.prog 16 [pt b0_ 0, vB a1] G R (Bk b0_ 42 (cell_Cell.c a0) :: F)
    (Ret fun u R' L' => u = .agg (api_Promise.c r).toArray ∧ R' = R ∧ L' = Bk b0_ 42 (cell_Cell.c a0) :: F) := by
  unfold cell_Cell_promise at hm
  refine co_ofN (N := 29) Try.func16 rfl rfl ?_
  refine c_seq ?_
  refine c_reg ?_
  refine r_new (o_al ze33) fun b0 => ?_
  refine r_nil ?_
  refine x_seq ?_
  refine c_seq ?_
  refine c_any mixed (effs := [24]) (V := []) ?_
  refine stage_ext [(0, vB a1), (1, pt b0_ 0), (2, pt b0_ 0), (3, pt b0_ 0), (4, pt b0_ 0), (5, vW a0.chosen.V), (6, vW (a0.chosen.V + 1)), (7, pt b0_ 0), (8, pt b0_ 0), (9, pt b0_ 6), (10, vW a0.most), (11, pt b0_ 0), (12, pt b0_ 0), (13, pt b0_ 7), (14, vW a0.ballot), (15, pt b0_ 0), (16, pt b0_ 0), (17, pt b0_ 8), (18, .agg (api_View.c a0.value).toArray), (19, pt b0_ 0), (20, pt b0_ 0), (21, pt b0_ 0), (22, .agg (api_View.c a0.chosen).toArray), (23, .agg [vB a1, vW (a0.chosen.V + 1), vW a0.most, vW a0.ballot, vW a0.value.V, vI a0.value.Primary, vW a0.value.PLife, vI a0.value.Backup, vW a0.value.BLife, vW a0.value.Epoch, vW a0.chosen.V, vI a0.chosen.Primary, vW a0.chosen.PLife, vI a0.chosen.Backup, vW a0.chosen.BLife, vW a0.chosen.Epoch].toArray)] rfl ?_
  refine stage rfl rfl rfl rfl [0, 0, 2, 6, 14, 30, 62, 0, 128, 384, 896, 0, 2048, 6144, 14336, 0, 32768, 98304, 229376, 0, 524288, 1572864, 3670016, 8388607, 16777215] [0, 1, 2, 3, 4, 5, 6, 7, 8, 9, 10, 11, 12, 13, 14, 15, 16, 17, 18, 19, 20, 21, 22, 23] [24] rfl rfl rfl (qc rfl rfl (s_u (o_mv rfl)) (qc rfl rfl (s_u (o_mv rfl)) (qc rfl rfl (s_u (o_nc rfl)) (qc rfl rfl (s_u (o_fa fa42_0 rfl)) (qc rfl rfl (s_u (o_fa fa25_0 rfl)) (qc rfl rfl (s_u (o_ld 1 sc23 rfl rfl rfl)) (qc rfl rfl (s_u (o_bin rfl rfl (bW_add a0.chosen.V 1))) (qc rfl rfl (s_u (o_mv rfl)) (qc rfl rfl (s_u (o_nc rfl)) (qc rfl rfl (s_u (o_fa fa42_1 rfl)) (qc rfl rfl (s_u (o_ld 1 sc23 rfl rfl rfl)) (qc rfl rfl (s_u (o_mv rfl)) (qc rfl rfl (s_u (o_nc rfl)) (qc rfl rfl (s_u (o_fa fa42_2 rfl)) (qc rfl rfl (s_u (o_ld 1 sc23 rfl rfl rfl)) (qc rfl rfl (s_u (o_mv rfl)) (qc rfl rfl (s_u (o_nc rfl)) (qc rfl rfl (s_u (o_fa fa42_3 rfl)) (qc rfl rfl (s_u (o_ldn 1 (api_View.c a0.value) ag25 rfl rfl rfl rfl)) (qc rfl rfl (s_u (o_mv rfl)) (qc rfl rfl (s_u (o_nc rfl)) (qc rfl rfl (s_u (o_fa fa42_0 rfl)) (qc rfl rfl (s_u (o_ldn 1 (api_View.c a0.chosen) ag25 rfl rfl rfl rfl)) (qc rfl rfl (s_u (o_bld [vB a1, vW (a0.chosen.V + 1), vW a0.most, vW a0.ballot, vW a0.value.V, vI a0.value.Primary, vW a0.value.PLife, vI a0.value.Backup, vW a0.value.BLife, vW a0.value.Epoch, vW a0.chosen.V, vI a0.chosen.Primary, vW a0.chosen.PLife, vI a0.chosen.Backup, vW a0.chosen.BLife, vW a0.chosen.Epoch] rfl (fun _ => by kernel_rfl))) qn)))))))))))))))))))))))) ?_ (fun h => absurd h (by decide))
  refine ec (eo_u rfl (s_u (o_stn ag33 rfl rfl rfl rfl rfl rfl rfl)) (Le.refl _) ?_) en
  refine stage rfl rfl rfl rfl [0, 0, 2, 6, 14, 30, 62, 0, 128, 384, 896, 0, 2048, 6144, 14336, 0, 32768, 98304, 229376, 0, 524288, 1572864, 3670016, 8388607, 16777215] [] [] rfl rfl rfl qn en ?_
  intro _
  refine ex_sub (E' := [(4, pt b0 0)]) ⟨rfl, trivial⟩ ?_
  refine x_seq ?_
  refine c_ret ?_
  subst hm
  exact x_d1 rfl (rv_n 0 [vB a1, vW (a0.chosen.V + 1), vW a0.most, vW a0.ballot, vW a0.value.V, vI a0.value.Primary, vW a0.value.PLife, vI a0.value.Backup, vW a0.value.BLife, vW a0.value.Epoch, vW a0.chosen.V, vI a0.chosen.Primary, vW a0.chosen.PLife, vI a0.chosen.Backup, vW a0.chosen.BLife, vW a0.chosen.Epoch] ag33 rfl rfl rfl rfl) (fun _ h => st_pk 2 [1] (by decide) h) (Le.refl _) ⟨_, rfl, rfl, rfl, rfl⟩

def cell_Cell_Prepare (a0 : cell_Cell) (a1 : api_View) (a2 : UInt64) : api_Promise × cell_Cell :=
  lt (cell_Cell_Learn a0 a1) fun r2 => if (!(decide (a1 = r2.2.chosen)) || decide (a2 ≤ r2.2.most)) then ((⟨(cell_Cell_promise r2.2 false).OK, (cell_Cell_promise r2.2 false).V, (cell_Cell_promise r2.2 false).Most, (cell_Cell_promise r2.2 false).Ballot, ((cell_Cell_promise r2.2 false).Value), ((cell_Cell_promise r2.2 false).Chosen)⟩ : api_Promise), r2.2) else ((⟨(cell_Cell_promise (⟨r2.2.chosen, a2, r2.2.ballot, r2.2.value⟩ : cell_Cell) true).OK, (cell_Cell_promise (⟨r2.2.chosen, a2, r2.2.ballot, r2.2.value⟩ : cell_Cell) true).V, (cell_Cell_promise (⟨r2.2.chosen, a2, r2.2.ballot, r2.2.value⟩ : cell_Cell) true).Most, (cell_Cell_promise (⟨r2.2.chosen, a2, r2.2.ballot, r2.2.value⟩ : cell_Cell) true).Ballot, ((cell_Cell_promise (⟨r2.2.chosen, a2, r2.2.ballot, r2.2.value⟩ : cell_Cell) true).Value), ((cell_Cell_promise (⟨r2.2.chosen, a2, r2.2.ballot, r2.2.value⟩ : cell_Cell) true).Chosen)⟩ : api_Promise), (⟨r2.2.chosen, a2, r2.2.ballot, r2.2.value⟩ : cell_Cell))
theorem cell_Cell_Prepare.ok {G R F} (b0_ : Nat) (a0 : cell_Cell) (a1 : api_View) (a2 : UInt64) (r : api_Promise × cell_Cell) (hm : cell_Cell_Prepare a0 a1 a2 = r) : CO Try.prog 9 [pt b0_ 0, .agg (api_View.c a1).toArray, vW a2] G R (Bk b0_ 42 (cell_Cell.c a0) :: F)
    (Ret fun u R' L' => u = .agg (api_Promise.c r.1).toArray ∧ R' = R ∧ L' = Bk b0_ 42 (cell_Cell.c r.2) :: F) := by
  unfold cell_Cell_Prepare at hm
  refine co_ofN (N := 35) Try.func9 rfl rfl ?_
  refine c_seq ?_
  refine c_reg ?_
  refine r_new (o_bx (api_View.c a1) rfl rfl) fun b0 => ?_
  refine r_new (o_al ze33) fun b1 => ?_
  refine r_nil ?_
  refine x_seq ?_
  refine c_seq ?_
  refine c_seq ?_
  refine c_reg ?_
  refine r_u (o_mv rfl) ?_
  refine r_u (o_bin rfl rfl (bP_eqp Try.underlying26)) ?_
  refine r_nil ?_
  refine x_seq ?_
  refine c_ff rfl ?_
  refine c_skip ?_
  refine x_seq ?_
  refine c_seq ?_
  refine c_reg ?_
  refine r_u (o_mv rfl) ?_
  refine r_u (o_ldn 1 (api_View.c a1) ag25 rfl rfl rfl rfl) ?_
  obtain ⟨r2, hr2, hm3⟩ := ltx hm
  refine rl_st (fun _ h => st_pk 3 [2, 0, 1] (by decide) h) ?_
  refine r_c (s_w (o_call ca13 rfl (cell_Cell_Learn.ok b0_ a0 a1 r2 hr2))) ?_
  refine r_nil ?_
  refine x_seq ?_
  refine c_seq ?_
  refine c_seq ?_
  refine c_any mixed (effs := []) (V := []) ?_
  refine stage_ext [(0, .agg (api_View.c a1).toArray), (1, pt b0_ 0), (2, pt b0_ 0), (3, pt b0_ 0), (4, .agg (api_View.c r2.2.chosen).toArray), (5, vB (!(decide (a1 = r2.2.chosen)))), (6, vB (!(decide (a1 = r2.2.chosen)))), (7, gv (!(!(decide (a1 = r2.2.chosen)))) (vW a2)), (8, gv (!(!(decide (a1 = r2.2.chosen)))) (pt b0_ 0)), (9, gv (!(!(decide (a1 = r2.2.chosen)))) (pt b0_ 0)), (10, gv (!(!(decide (a1 = r2.2.chosen)))) (pt b0_ 6)), (11, gv (!(!(decide (a1 = r2.2.chosen)))) (vW r2.2.most)), (12, gv (!(!(decide (a1 = r2.2.chosen)))) (vB (decide (a2 ≤ r2.2.most)))), (13, vB (!(decide (a1 = r2.2.chosen)) || decide (a2 ≤ r2.2.most)))] rfl ?_
  refine stage rfl rfl rfl rfl [0, 0, 2, 6, 14, 31, 63, 127, 127, 383, 895, 1919, 4095, 8191] [0, 1, 2, 3, 4, 5, 6, 7, 8, 9, 10, 11, 12, 13] [] rfl rfl rfl (qc rfl rfl (s_u (o_ldn 2 (api_View.c a1) ag25 rfl rfl rfl rfl)) (qc rfl rfl (s_u (o_mv rfl)) (qc rfl rfl (s_u (o_nc rfl)) (qc rfl rfl (s_u (o_fa fa42_0 rfl)) (qc rfl rfl (s_u (o_ldn 0 (api_View.c r2.2.chosen) ag25 rfl rfl rfl rfl)) (qc rfl rfl (s_u (o_bin rfl rfl (api_View.bne_25 a1 r2.2.chosen))) (qc rfl rfl (s_u (o_mv rfl)) (qc rfl rfl (s_gf rfl rfl fun g => o_mv rfl) (qc rfl rfl (s_gf rfl rfl fun g => o_mv rfl) (qc rfl rfl (s_gf rfl rfl fun g => o_nc (evg rfl g)) (qc rfl rfl (s_gf rfl rfl fun g => o_fa fa42_1 (evg rfl g)) (qc rfl rfl (s_gf rfl rfl fun g => o_ld 0 sc23 (evg rfl g) rfl rfl) (qc rfl rfl (s_gf rfl rfl fun g => o_bin (evg rfl g) (evg rfl g) (bW_le a2 r2.2.most)) (qc rfl rfl (s_u (o_or rfl rfl)) qn)))))))))))))) en ?_
  intro _
  refine ex_sub (E' := [(0, pt b0_ 0), (2, vW a2), (6, pt b1 0), (26, vB (!(decide (a1 = r2.2.chosen)) || decide (a2 ≤ r2.2.most)))]) ⟨rfl, rfl, rfl, rfl, trivial⟩ ?_
  refine x_seq ?_
  refine c_if (b := (!(decide (a1 = r2.2.chosen)) || decide (a2 ≤ r2.2.most))) rfl (fun h4 => ?_) fun h4 => ?_
  · have hm5 := ift hm3 h4
    refine c_seq ?_
    refine c_reg ?_
    refine r_u (o_mv rfl) ?_
    refine r_c (s_w (o_call ca16 rfl (cell_Cell_promise.ok b0_ r2.2 false _ rfl))) ?_
    refine rl_st (fun _ h => st_pk 3 [1, 0, 2] (by decide) h) ?_
    refine r_u0 (o_stn ag33 rfl rfl rfl rfl rfl rfl rfl) ?_
    refine r_nil ?_
    refine x_seq ?_
    refine c_ret ?_
    subst hm5
    exact x_d1 rfl (rv_n 0 [vB ((cell_Cell_promise r2.2 false).OK), vW ((cell_Cell_promise r2.2 false).V), vW ((cell_Cell_promise r2.2 false).Most), vW ((cell_Cell_promise r2.2 false).Ballot), vW (((cell_Cell_promise r2.2 false).Value).V), vI (((cell_Cell_promise r2.2 false).Value).Primary), vW (((cell_Cell_promise r2.2 false).Value).PLife), vI (((cell_Cell_promise r2.2 false).Value).Backup), vW (((cell_Cell_promise r2.2 false).Value).BLife), vW (((cell_Cell_promise r2.2 false).Value).Epoch), vW (((cell_Cell_promise r2.2 false).Chosen).V), vI (((cell_Cell_promise r2.2 false).Chosen).Primary), vW (((cell_Cell_promise r2.2 false).Chosen).PLife), vI (((cell_Cell_promise r2.2 false).Chosen).Backup), vW (((cell_Cell_promise r2.2 false).Chosen).BLife), vW (((cell_Cell_promise r2.2 false).Chosen).Epoch)] ag33 rfl rfl rfl rfl) (fun _ h => st_pk 3 [1] (by decide) h) (Le.refl _) ⟨_, rfl, rfl, rfl, rfl⟩
  · have hm5 := iff_ hm3 h4
    refine c_skip ?_
    refine x_seq ?_
    refine c_seq ?_
    refine c_reg ?_
    refine r_u (o_mv rfl) ?_
    refine r_u (o_mv rfl) ?_
    refine r_u (o_nc rfl) ?_
    refine r_u (o_fa fa42_1 rfl) ?_
    refine r_u0 (o_st sc23 rfl rfl rfl rfl rfl rfl) ?_
    refine r_nil ?_
    refine x_seq ?_
    refine c_seq ?_
    refine c_reg ?_
    refine r_u (o_mv rfl) ?_
    refine r_c (s_w (o_call ca16 rfl (cell_Cell_promise.ok b0_ (⟨r2.2.chosen, a2, r2.2.ballot, r2.2.value⟩ : cell_Cell) true _ rfl))) ?_
    refine rl_st (fun _ h => st_pk 3 [1, 0, 2] (by decide) h) ?_
    refine r_u0 (o_stn ag33 rfl rfl rfl rfl rfl rfl rfl) ?_
    refine r_nil ?_
    refine x_seq ?_
    refine c_ret ?_
    subst hm5
    exact x_d1 rfl (rv_n 0 [vB ((cell_Cell_promise (⟨r2.2.chosen, a2, r2.2.ballot, r2.2.value⟩ : cell_Cell) true).OK), vW ((cell_Cell_promise (⟨r2.2.chosen, a2, r2.2.ballot, r2.2.value⟩ : cell_Cell) true).V), vW ((cell_Cell_promise (⟨r2.2.chosen, a2, r2.2.ballot, r2.2.value⟩ : cell_Cell) true).Most), vW ((cell_Cell_promise (⟨r2.2.chosen, a2, r2.2.ballot, r2.2.value⟩ : cell_Cell) true).Ballot), vW (((cell_Cell_promise (⟨r2.2.chosen, a2, r2.2.ballot, r2.2.value⟩ : cell_Cell) true).Value).V), vI (((cell_Cell_promise (⟨r2.2.chosen, a2, r2.2.ballot, r2.2.value⟩ : cell_Cell) true).Value).Primary), vW (((cell_Cell_promise (⟨r2.2.chosen, a2, r2.2.ballot, r2.2.value⟩ : cell_Cell) true).Value).PLife), vI (((cell_Cell_promise (⟨r2.2.chosen, a2, r2.2.ballot, r2.2.value⟩ : cell_Cell) true).Value).Backup), vW (((cell_Cell_promise (⟨r2.2.chosen, a2, r2.2.ballot, r2.2.value⟩ : cell_Cell) true).Value).BLife), vW (((cell_Cell_promise (⟨r2.2.chosen, a2, r2.2.ballot, r2.2.value⟩ : cell_Cell) true).Value).Epoch), vW (((cell_Cell_promise (⟨r2.2.chosen, a2, r2.2.ballot, r2.2.value⟩ : cell_Cell) true).Chosen).V), vI (((cell_Cell_promise (⟨r2.2.chosen, a2, r2.2.ballot, r2.2.value⟩ : cell_Cell) true).Chosen).Primary), vW (((cell_Cell_promise (⟨r2.2.chosen, a2, r2.2.ballot, r2.2.value⟩ : cell_Cell) true).Chosen).PLife), vI (((cell_Cell_promise (⟨r2.2.chosen, a2, r2.2.ballot, r2.2.value⟩ : cell_Cell) true).Chosen).Backup), vW (((cell_Cell_promise (⟨r2.2.chosen, a2, r2.2.ballot, r2.2.value⟩ : cell_Cell) true).Chosen).BLife), vW (((cell_Cell_promise (⟨r2.2.chosen, a2, r2.2.ballot, r2.2.value⟩ : cell_Cell) true).Chosen).Epoch)] ag33 rfl rfl rfl rfl) (fun _ h => st_pk 3 [1] (by decide) h) (Le.refl _) ⟨_, rfl, rfl, rfl, rfl⟩

def cell_Cell_Accept (a0 : cell_Cell) (a1 : api_View) (a2 : UInt64) : api_Promise × cell_Cell :=
  if (((!(cell_Check a1) || (a1.V != (a0.chosen.V + 1))) || decide (a2 < a0.most)) || (a2 == 0)) then ((⟨(cell_Cell_promise a0 false).OK, (cell_Cell_promise a0 false).V, (cell_Cell_promise a0 false).Most, (cell_Cell_promise a0 false).Ballot, ((cell_Cell_promise a0 false).Value), ((cell_Cell_promise a0 false).Chosen)⟩ : api_Promise), a0) else ((⟨(cell_Cell_promise (⟨a0.chosen, a2, a2, a1⟩ : cell_Cell) true).OK, (cell_Cell_promise (⟨a0.chosen, a2, a2, a1⟩ : cell_Cell) true).V, (cell_Cell_promise (⟨a0.chosen, a2, a2, a1⟩ : cell_Cell) true).Most, (cell_Cell_promise (⟨a0.chosen, a2, a2, a1⟩ : cell_Cell) true).Ballot, ((cell_Cell_promise (⟨a0.chosen, a2, a2, a1⟩ : cell_Cell) true).Value), ((cell_Cell_promise (⟨a0.chosen, a2, a2, a1⟩ : cell_Cell) true).Chosen)⟩ : api_Promise), (⟨a0.chosen, a2, a2, a1⟩ : cell_Cell))
theorem cell_Cell_Accept.ok {G R F} (b0_ : Nat) (a0 : cell_Cell) (a1 : api_View) (a2 : UInt64) (r : api_Promise × cell_Cell) (hm : cell_Cell_Accept a0 a1 a2 = r) : CO Try.prog 10 [pt b0_ 0, .agg (api_View.c a1).toArray, vW a2] G R (Bk b0_ 42 (cell_Cell.c a0) :: F)
    (Ret fun u R' L' => u = .agg (api_Promise.c r.1).toArray ∧ R' = R ∧ L' = Bk b0_ 42 (cell_Cell.c r.2) :: F) := by
  unfold cell_Cell_Accept at hm
  refine co_ofN (N := 52) Try.func10 rfl rfl ?_
  refine c_seq ?_
  refine c_reg ?_
  refine r_new (o_bx (api_View.c a1) rfl rfl) fun b0 => ?_
  refine r_new (o_al ze33) fun b1 => ?_
  refine r_nil ?_
  refine x_seq ?_
  refine c_seq ?_
  refine c_seq ?_
  refine c_reg ?_
  refine r_u (o_mv rfl) ?_
  refine r_u (o_bin rfl rfl (bP_eqp Try.underlying26)) ?_
  refine r_nil ?_
  refine x_seq ?_
  refine c_ff rfl ?_
  refine c_skip ?_
  refine x_seq ?_
  refine c_seq ?_
  refine c_seq ?_
  refine c_any mixed (effs := []) (V := []) ?_
  refine stage_ext [(0, .agg (api_View.c a1).toArray), (1, vB (cell_Check a1)), (2, vB (!(cell_Check a1))), (3, vB (!(cell_Check a1))), (4, gv (!(!(cell_Check a1))) (pt b0 0)), (5, gv (!(!(cell_Check a1))) (vW a1.V)), (6, gv (!(!(cell_Check a1))) (pt b0_ 0)), (7, gv (!(!(cell_Check a1))) (pt b0_ 0)), (8, gv (!(!(cell_Check a1))) (pt b0_ 0)), (9, gv (!(!(cell_Check a1))) (pt b0_ 0)), (10, gv (!(!(cell_Check a1))) (vW a0.chosen.V)), (11, gv (!(!(cell_Check a1))) (vW (a0.chosen.V + 1))), (12, gv (!(!(cell_Check a1))) (vB (a1.V != (a0.chosen.V + 1)))), (13, vB (!(cell_Check a1) || (a1.V != (a0.chosen.V + 1)))), (14, vB (!(cell_Check a1) || (a1.V != (a0.chosen.V + 1)))), (15, gv (!(!(cell_Check a1) || (a1.V != (a0.chosen.V + 1)))) (vW a2)), (16, gv (!(!(cell_Check a1) || (a1.V != (a0.chosen.V + 1)))) (pt b0_ 0)), (17, gv (!(!(cell_Check a1) || (a1.V != (a0.chosen.V + 1)))) (pt b0_ 0)), (18, gv (!(!(cell_Check a1) || (a1.V != (a0.chosen.V + 1)))) (pt b0_ 6)), (19, gv (!(!(cell_Check a1) || (a1.V != (a0.chosen.V + 1)))) (vW a0.most)), (20, gv (!(!(cell_Check a1) || (a1.V != (a0.chosen.V + 1)))) (vB (decide (a2 < a0.most)))), (21, vB ((!(cell_Check a1) || (a1.V != (a0.chosen.V + 1))) || decide (a2 < a0.most))), (22, vB ((!(cell_Check a1) || (a1.V != (a0.chosen.V + 1))) || decide (a2 < a0.most))), (23, gv (!((!(cell_Check a1) || (a1.V != (a0.chosen.V + 1))) || decide (a2 < a0.most))) (vW a2)), (24, gv (!((!(cell_Check a1) || (a1.V != (a0.chosen.V + 1))) || decide (a2 < a0.most))) (vB (a2 == 0))), (25, vB (((!(cell_Check a1) || (a1.V != (a0.chosen.V + 1))) || decide (a2 < a0.most)) || (a2 == 0)))] rfl ?_
  refine stage rfl rfl rfl rfl [0, 1, 3, 7, 15, 31, 15, 79, 207, 463, 975, 1999, 4095, 8191, 16383, 32767, 32767, 98303, 229375, 491519, 1048575, 2097151, 4194303, 8388607, 16777215, 33554431] [0, 1, 2, 3, 4, 5, 6, 7, 8, 9, 10, 11, 12, 13, 14, 15, 16, 17, 18, 19, 20, 21, 22, 23, 24, 25] [] rfl rfl rfl (qc rfl rfl (s_u (o_ldn 1 (api_View.c a1) ag25 rfl rfl rfl rfl)) (qc rfl rfl (s_u (o_callq ca11 rfl (cell_Check.ok a1 _ rfl))) (qc rfl rfl (s_u (o_not rfl)) (qc rfl rfl (s_u (o_mv rfl)) (qc rfl rfl (s_gf rfl rfl fun g => o_fa fa25_0 rfl) (qc rfl rfl (s_gf rfl rfl fun g => o_ld 1 sc23 (evg rfl g) rfl rfl) (qc rfl rfl (s_gf rfl rfl fun g => o_mv rfl) (qc rfl rfl (s_gf rfl rfl fun g => o_nc (evg rfl g)) (qc rfl rfl (s_gf rfl rfl fun g => o_fa fa42_0 (evg rfl g)) (qc rfl rfl (s_gf rfl rfl fun g => o_fa fa25_0 (evg rfl g)) (qc rfl rfl (s_gf rfl rfl fun g => o_ld 2 sc23 (evg rfl g) rfl rfl) (qc rfl rfl (s_gf rfl rfl fun g => o_bin (evg rfl g) rfl (bW_add a0.chosen.V 1)) (qc rfl rfl (s_gf rfl rfl fun g => o_bin (evg rfl g) (evg rfl g) (bW_ne a1.V (a0.chosen.V + 1))) (qc rfl rfl (s_u (o_or rfl rfl)) (qc rfl rfl (s_u (o_mv rfl)) (qc rfl rfl (s_gf rfl rfl fun g => o_mv rfl) (qc rfl rfl (s_gf rfl rfl fun g => o_mv rfl) (qc rfl rfl (s_gf rfl rfl fun g => o_nc (evg rfl g)) (qc rfl rfl (s_gf rfl rfl fun g => o_fa fa42_1 (evg rfl g)) (qc rfl rfl (s_gf rfl rfl fun g => o_ld 2 sc23 (evg rfl g) rfl rfl) (qc rfl rfl (s_gf rfl rfl fun g => o_bin (evg rfl g) (evg rfl g) (bW_lt a2 a0.most)) (qc rfl rfl (s_u (o_or rfl rfl)) (qc rfl rfl (s_u (o_mv rfl)) (qc rfl rfl (s_gf rfl rfl fun g => o_mv rfl) (qc rfl rfl (s_gf rfl rfl fun g => o_bin (evg rfl g) rfl (bW_eq a2 0)) (qc rfl rfl (s_u (o_or rfl rfl)) qn)))))))))))))))))))))))))) en ?_
  intro _
  refine ex_sub (E' := [(0, pt b0_ 0), (2, vW a2), (4, pt b0 0), (6, pt b1 0), (35, vB (((!(cell_Check a1) || (a1.V != (a0.chosen.V + 1))) || decide (a2 < a0.most)) || (a2 == 0)))]) ⟨rfl, rfl, rfl, rfl, rfl, trivial⟩ ?_
  refine x_seq ?_
  refine c_if (b := (((!(cell_Check a1) || (a1.V != (a0.chosen.V + 1))) || decide (a2 < a0.most)) || (a2 == 0))) rfl (fun h2 => ?_) fun h2 => ?_
  · have hm3 := ift hm h2
    refine c_seq ?_
    refine c_reg ?_
    refine r_u (o_mv rfl) ?_
    refine rl_st (fun _ h => st_pk 3 [2, 0, 1] (by decide) h) ?_
    refine r_c (s_w (o_call ca16 rfl (cell_Cell_promise.ok b0_ a0 false _ rfl))) ?_
    refine rl_st (fun _ h => st_pk 3 [1, 0, 2] (by decide) h) ?_
    refine r_u0 (o_stn ag33 rfl rfl rfl rfl rfl rfl rfl) ?_
    refine r_nil ?_
    refine x_seq ?_
    refine c_ret ?_
    subst hm3
    exact x_d1 rfl (rv_n 0 [vB ((cell_Cell_promise a0 false).OK), vW ((cell_Cell_promise a0 false).V), vW ((cell_Cell_promise a0 false).Most), vW ((cell_Cell_promise a0 false).Ballot), vW (((cell_Cell_promise a0 false).Value).V), vI (((cell_Cell_promise a0 false).Value).Primary), vW (((cell_Cell_promise a0 false).Value).PLife), vI (((cell_Cell_promise a0 false).Value).Backup), vW (((cell_Cell_promise a0 false).Value).BLife), vW (((cell_Cell_promise a0 false).Value).Epoch), vW (((cell_Cell_promise a0 false).Chosen).V), vI (((cell_Cell_promise a0 false).Chosen).Primary), vW (((cell_Cell_promise a0 false).Chosen).PLife), vI (((cell_Cell_promise a0 false).Chosen).Backup), vW (((cell_Cell_promise a0 false).Chosen).BLife), vW (((cell_Cell_promise a0 false).Chosen).Epoch)] ag33 rfl rfl rfl rfl) (fun _ h => st_pk 3 [1] (by decide) h) (Le.refl _) ⟨_, rfl, rfl, rfl, rfl⟩
  · have hm3 := iff_ hm h2
    refine c_skip ?_
    refine x_seq ?_
    refine c_seq ?_
    refine c_any mixed (effs := [8, 11, 14]) (V := []) ?_
    refine stage_st (fun _ h => st_pk 3 [2, 0, 1] (by decide) h) ?_
    refine stage_ext [(0, pt b0_ 0), (1, pt b0_ 0), (2, pt b0_ 0), (3, vW a2), (4, vW a2), (5, .agg (api_View.c a1).toArray), (6, pt b0_ 0), (7, pt b0_ 6)] rfl ?_
    refine stage rfl rfl rfl rfl [0, 0, 0, 0, 0, 0, 9, 73, 201, 475, 987, 2011, 4095, 8191, 16383] [0, 1, 2, 3, 4, 5, 6, 7] [8] rfl rfl rfl (qc rfl rfl (s_u (o_mv rfl)) (qc rfl rfl (s_u (o_mv rfl)) (qc rfl rfl (s_u (o_mv rfl)) (qc rfl rfl (s_u (o_mv rfl)) (qc rfl rfl (s_u (o_mv rfl)) (qc rfl rfl (s_u (o_ldn 2 (api_View.c a1) ag25 rfl rfl rfl rfl)) (qc rfl rfl (s_u (o_nc rfl)) (qc rfl rfl (s_u (o_fa fa42_1 rfl)) qn)))))))) ?_ (fun h => absurd h (by decide))
    refine ec (eo_u rfl (s_u (o_st sc23 rfl rfl rfl rfl rfl rfl)) (Le.refl _) ?_) en
    refine stage_ext [(9, pt b0_ 0), (10, pt b0_ 7)] rfl ?_
    refine stage rfl rfl rfl rfl [0, 0, 0, 0, 0, 0, 9, 73, 201, 475, 987, 2011, 4095, 8191, 16383] [1, 2, 4, 5, 9, 10] [11] rfl rfl rfl (qc rfl rfl (s_u (o_mv rfl)) (qc rfl rfl (s_u (o_mv rfl)) (qc rfl rfl (s_u (o_mv rfl)) (qc rfl rfl (s_u (o_ldn 2 (api_View.c a1) ag25 rfl rfl rfl rfl)) (qc rfl rfl (s_u (o_nc rfl)) (qc rfl rfl (s_u (o_fa fa42_2 rfl)) qn)))))) ?_ (fun h => absurd h (by decide))
    refine ec (eo_u rfl (s_u (o_st sc23 rfl rfl rfl rfl rfl rfl)) (Le.refl _) ?_) en
    refine stage_ext [(12, pt b0_ 0), (13, pt b0_ 8)] rfl ?_
    refine stage rfl rfl rfl rfl [0, 0, 0, 0, 0, 0, 9, 73, 201, 475, 987, 2011, 4095, 8191, 16383] [2, 5, 12, 13] [14] rfl rfl rfl (qc rfl rfl (s_u (o_mv rfl)) (qc rfl rfl (s_u (o_ldn 2 (api_View.c a1) ag25 rfl rfl rfl rfl)) (qc rfl rfl (s_u (o_nc rfl)) (qc rfl rfl (s_u (o_fa fa42_3 rfl)) qn)))) ?_ (fun h => absurd h (by decide))
    refine ec (eo_u rfl (s_u (o_stn ag25 rfl rfl rfl rfl rfl rfl rfl)) (Le.refl _) ?_) en
    refine stage rfl rfl rfl rfl [0, 0, 0, 0, 0, 0, 9, 73, 201, 475, 987, 2011, 4095, 8191, 16383] [] [] rfl rfl rfl qn en ?_
    intro _
    refine ex_sub (E' := [(0, pt b0_ 0), (6, pt b1 0)]) ⟨rfl, rfl, trivial⟩ ?_
    refine x_seq ?_
    refine c_seq ?_
    refine c_reg ?_
    refine r_u (o_mv rfl) ?_
    refine r_c (s_w (o_call ca16 rfl (cell_Cell_promise.ok b0_ (⟨a0.chosen, a2, a2, a1⟩ : cell_Cell) true _ rfl))) ?_
    refine rl_st (fun _ h => st_pk 3 [1, 0, 2] (by decide) h) ?_
    refine r_u0 (o_stn ag33 rfl rfl rfl rfl rfl rfl rfl) ?_
    refine r_nil ?_
    refine x_seq ?_
    refine c_ret ?_
    subst hm3
    exact x_d1 rfl (rv_n 0 [vB ((cell_Cell_promise (⟨a0.chosen, a2, a2, a1⟩ : cell_Cell) true).OK), vW ((cell_Cell_promise (⟨a0.chosen, a2, a2, a1⟩ : cell_Cell) true).V), vW ((cell_Cell_promise (⟨a0.chosen, a2, a2, a1⟩ : cell_Cell) true).Most), vW ((cell_Cell_promise (⟨a0.chosen, a2, a2, a1⟩ : cell_Cell) true).Ballot), vW (((cell_Cell_promise (⟨a0.chosen, a2, a2, a1⟩ : cell_Cell) true).Value).V), vI (((cell_Cell_promise (⟨a0.chosen, a2, a2, a1⟩ : cell_Cell) true).Value).Primary), vW (((cell_Cell_promise (⟨a0.chosen, a2, a2, a1⟩ : cell_Cell) true).Value).PLife), vI (((cell_Cell_promise (⟨a0.chosen, a2, a2, a1⟩ : cell_Cell) true).Value).Backup), vW (((cell_Cell_promise (⟨a0.chosen, a2, a2, a1⟩ : cell_Cell) true).Value).BLife), vW (((cell_Cell_promise (⟨a0.chosen, a2, a2, a1⟩ : cell_Cell) true).Value).Epoch), vW (((cell_Cell_promise (⟨a0.chosen, a2, a2, a1⟩ : cell_Cell) true).Chosen).V), vI (((cell_Cell_promise (⟨a0.chosen, a2, a2, a1⟩ : cell_Cell) true).Chosen).Primary), vW (((cell_Cell_promise (⟨a0.chosen, a2, a2, a1⟩ : cell_Cell) true).Chosen).PLife), vI (((cell_Cell_promise (⟨a0.chosen, a2, a2, a1⟩ : cell_Cell) true).Chosen).Backup), vW (((cell_Cell_promise (⟨a0.chosen, a2, a2, a1⟩ : cell_Cell) true).Chosen).BLife), vW (((cell_Cell_promise (⟨a0.chosen, a2, a2, a1⟩ : cell_Cell) true).Chosen).Epoch)] ag33 rfl rfl rfl rfl) (fun _ h => st_pk 3 [1] (by decide) h) (Le.refl _) ⟨_, rfl, rfl, rfl, rfl⟩

def hawthornlaw16_awake  : Option Bool :=
  lt (cell_New hawthornlaw16_first) fun r0 => om r0.1 (none) fun x3 => lt (cell_Cell_Prepare x3 hawthornlaw16_first 5) fun r8 => lt (cell_Cell_Accept r8.2 (⟨2, 1, 1, (-1), 0, 1⟩ : api_View) 5) fun r10 => lt (cell_Cell_Prepare r10.2 hawthornlaw16_first 6) fun r12 => some (((((((r0.2 == 0) && r8.1.OK) && r10.1.OK) && r12.1.OK) && (r12.1.Ballot == 5)) && decide (r12.1.Value = (⟨2, 1, 1, (-1), 0, 1⟩ : api_View))) && (cell_Check (⟨2, 1, 1, (-1), 0, 1⟩ : api_View)))
theorem hawthornlaw16_awake.ok {G R F} (r : Bool) (hm : hawthornlaw16_awake = some r) : CO Try.prog 8 [] G R (F)
    (Ret fun u R' L' => u = vB r ∧ R' = R ∧ L' = F) := by
  unfold hawthornlaw16_awake at hm
  refine co_ofN (N := 51) Try.func8 rfl rfl ?_
  refine c_seq ?_
  refine c_reg ?_
  refine r_u (o_as rfl) ?_
  refine r_nil ?_
  refine x_seq ?_
  refine c_seq ?_
  refine c_reg ?_
  refine r_u (o_callq ca7 rfl (hawthornlaw16_first.ok _ rfl)) ?_
  obtain ⟨r0, hr0, hm2⟩ := ltx hm
  refine r_sw (s_w (o_call ca6 rfl (cell_New.ok hawthornlaw16_first r0 hr0))) ?_
  rintro _ _ _ _ ⟨pv1, rfl, rfl, rfl⟩
  refine r_u (o_mv rfl) ?_
  refine r_u (o_ext rfl rfl) ?_
  refine r_u (o_ext rfl rfl) ?_
  refine r_u (o_as rfl) ?_
  refine r_u (o_as rfl) ?_
  refine r_nil ?_
  refine x_seq ?_
  refine c_seq ?_
  refine cd_opt (fun ho5 => ?_) (fun x3 b4 ho5 => ?_)
  · rintro rfl
    have hm6 := om_n hm2 ho5
    cases hm6
  · rintro rfl
    have hm6 := om_s hm2 ho5
    refine c_reg ?_
    refine r_u (o_bld [vW 2, vI 1, vW 1, vI (-1), vW 0, vW 1] rfl (fun _ => by kernel_rfl)) ?_
    refine r_new (o_al ze25) fun b7 => ?_
    refine r_u0 (o_stn ag25 rfl rfl rfl rfl rfl rfl rfl) ?_
    refine r_nil ?_
    refine x_seq ?_
    refine c_seq ?_
    obtain ⟨r8, hr8, hm9⟩ := ltx hm6
    obtain ⟨r10, hr10, hm11⟩ := ltx hm9
    obtain ⟨r12, hr12, hm13⟩ := ltx hm11
    refine c_anyF mixed (effs := [2, 5, 8, 12, 13, 14]) (fr := alF [(9, 33, [vB false, vW 0, vW 0, vW 0, vW 0, vI 0, vW 0, vI 0, vW 0, vW 0, vW 0, vI 0, vW 0, vI 0, vW 0, vW 0]), (10, 33, [vB false, vW 0, vW 0, vW 0, vW 0, vI 0, vW 0, vI 0, vW 0, vW 0, vW 0, vI 0, vW 0, vI 0, vW 0, vW 0]), (11, 33, [vB false, vW 0, vW 0, vW 0, vW 0, vI 0, vW 0, vI 0, vW 0, vW 0, vW 0, vI 0, vW 0, vI 0, vW 0, vW 0])]) (V := []) rfl ?_
    refine cutT (al := [(9, 33, [vB false, vW 0, vW 0, vW 0, vW 0, vI 0, vW 0, vI 0, vW 0, vW 0, vW 0, vI 0, vW 0, vI 0, vW 0, vW 0]), (10, 33, [vB false, vW 0, vW 0, vW 0, vW 0, vI 0, vW 0, vI 0, vW 0, vW 0, vW 0, vI 0, vW 0, vI 0, vW 0, vW 0]), (11, 33, [vB false, vW 0, vW 0, vW 0, vW 0, vI 0, vW 0, vI 0, vW 0, vW 0, vW 0, vI 0, vW 0, vI 0, vW 0, vW 0])]) [8, 5, 2] [(8, .agg (api_Promise.c r12.1).toArray), (7, .agg (api_View.c hawthornlaw16_first).toArray), (5, .agg (api_Promise.c r10.1).toArray), (2, .agg (api_Promise.c r8.1).toArray), (0, pt b4 0), (1, .agg (api_View.c hawthornlaw16_first).toArray), (3, pt b4 0), (4, .agg [vW 2, vI 1, vW 1, vI (-1), vW 0, vW 1].toArray), (6, pt b4 0)] (Bk b4 42 (cell_Cell.c r12.2) :: Bk b7 25 [vW 2, vI 1, vW 1, vI (-1), vW 0, vW 1] :: F) (fun bs17 => ?_) fun T22 => ?_
    · refine stage rfl rfl rfl rfl [0, 0, 3, 0, 0, 31, 0, 63, 255, 0, 0, 0, 4095, 8191, 16383] [] [12] rfl rfl rfl qn ?_ (fun h => absurd h (by decide))
      refine ec (eo_u rfl (s_u (o_stn ag33 rfl rfl rfl rfl rfl rfl rfl)) (Le.refl _) ?_) en
      refine stage_st (fun _ h => st_pk 5 [1, 0, 2, 3, 4] (by decide) h) ?_
      refine stage rfl rfl rfl rfl [0, 0, 3, 0, 0, 31, 0, 63, 255, 0, 0, 0, 4095, 8191, 16383] [] [13] rfl rfl rfl qn ?_ (fun h => absurd h (by decide))
      refine ec (eo_u rfl (s_u (o_stn ag33 rfl rfl rfl rfl rfl rfl rfl)) (Le.refl _) ?_) en
      refine stage_st (fun _ h => st_pk 5 [2, 0, 1, 3, 4] (by decide) h) ?_
      refine stage rfl rfl rfl rfl [0, 0, 3, 0, 0, 31, 0, 63, 255, 0, 0, 0, 4095, 8191, 16383] [] [14] rfl rfl rfl qn ?_ (fun h => absurd h (by decide))
      refine ec (eo_u rfl (s_u (o_stn ag33 rfl rfl rfl rfl rfl rfl rfl)) (Le.refl _) ?_) en
      refine stage rfl rfl rfl rfl [0, 0, 3, 0, 0, 31, 0, 63, 255, 0, 0, 0, 4095, 8191, 16383] [] [] rfl rfl rfl qn en ?_
      intro _
      refine ex_sub (E' := [(2, vI r0.2), (3, pt b7 0), (4, pt (bs17 9) 0), (5, pt (bs17 10) 0), (6, pt (bs17 11) 0)]) ⟨rfl, rfl, rfl, rfl, rfl, trivial⟩ ?_
      refine x_seq ?_
      refine c_seq ?_
      refine c_reg ?_
      refine r_u (o_mv rfl) ?_
      refine r_u (o_bin rfl rfl (bI_eq r0.2 0)) ?_
      refine r_u (o_mv rfl) ?_
      refine r_s (s_gt rfl rfl fun g => o_fa fa33_0 rfl) ?_
      refine r_s (s_gt rfl rfl fun g => o_ld 2 sc4 (evg rfl g) rfl rfl) ?_
      refine r_u (o_and rfl rfl) ?_
      refine r_u (o_mv rfl) ?_
      refine r_s (s_gt rfl rfl fun g => o_fa fa33_0 rfl) ?_
      refine r_s (s_gt rfl rfl fun g => o_ld 1 sc4 (evg rfl g) rfl rfl) ?_
      refine r_u (o_and rfl rfl) ?_
      refine r_u (o_mv rfl) ?_
      refine r_s (s_gt rfl rfl fun g => o_fa fa33_0 rfl) ?_
      refine r_s (s_gt rfl rfl fun g => o_ld 0 sc4 (evg rfl g) rfl rfl) ?_
      refine r_u (o_and rfl rfl) ?_
      refine r_u (o_mv rfl) ?_
      refine r_s (s_gt rfl rfl fun g => o_fa fa33_3 rfl) ?_
      refine r_s (s_gt rfl rfl fun g => o_ld 0 sc23 (evg rfl g) rfl rfl) ?_
      refine r_s (s_gt rfl rfl fun g => o_bin (evg rfl g) rfl (bW_eq r12.1.Ballot 5)) ?_
      refine r_u (o_and rfl rfl) ?_
      refine r_u (o_mv rfl) ?_
      refine r_s (s_gt rfl rfl fun g => o_fa fa33_4 rfl) ?_
      refine r_s (s_gt rfl rfl fun g => o_ldn 0 (api_View.c r12.1.Value) ag25 (evg rfl g) rfl rfl rfl) ?_
      refine r_s (s_gt rfl rfl fun g => o_ldn 4 [vW 2, vI 1, vW 1, vI (-1), vW 0, vW 1] ag25 rfl rfl rfl rfl) ?_
      refine r_s (s_gt rfl rfl fun g => o_bin (evg rfl g) (evg rfl g) (api_View.beq_25 r12.1.Value (⟨2, 1, 1, (-1), 0, 1⟩ : api_View))) ?_
      refine r_u (o_and rfl rfl) ?_
      refine r_u (o_mv rfl) ?_
      refine r_s (s_gt rfl rfl fun g => o_ldn 4 [vW 2, vI 1, vW 1, vI (-1), vW 0, vW 1] ag25 rfl rfl rfl rfl) ?_
      refine r_s (s_gt rfl rfl fun g => o_callq ca11 (evs1 (evg rfl g) evs0) (cell_Check.ok (⟨2, 1, 1, (-1), 0, 1⟩ : api_View) _ rfl)) ?_
      refine r_u (o_and rfl rfl) ?_
      refine r_u (o_as rfl) ?_
      refine r_nil ?_
      refine x_seq ?_
      refine c_ret ?_
      obtain rfl := Option.some.inj hm13
      refine ex_st (fun _ h => st_pk 5 [] (by decide) h) ?_
      exact x_r1 rfl (rv_t rfl) (Le.refl _) ⟨_, rfl, rfl, rfl, rfl⟩
    refine cutT (al := [(9, 33, [vB false, vW 0, vW 0, vW 0, vW 0, vI 0, vW 0, vI 0, vW 0, vW 0, vW 0, vI 0, vW 0, vI 0, vW 0, vW 0]), (10, 33, [vB false, vW 0, vW 0, vW 0, vW 0, vI 0, vW 0, vI 0, vW 0, vW 0, vW 0, vI 0, vW 0, vI 0, vW 0, vW 0]), (11, 33, [vB false, vW 0, vW 0, vW 0, vW 0, vI 0, vW 0, vI 0, vW 0, vW 0, vW 0, vI 0, vW 0, vI 0, vW 0, vW 0])]) [5, 2] [(7, .agg (api_View.c hawthornlaw16_first).toArray), (5, .agg (api_Promise.c r10.1).toArray), (2, .agg (api_Promise.c r8.1).toArray), (0, pt b4 0), (1, .agg (api_View.c hawthornlaw16_first).toArray), (3, pt b4 0), (4, .agg [vW 2, vI 1, vW 1, vI (-1), vW 0, vW 1].toArray), (6, pt b4 0)] (Bk b4 42 (cell_Cell.c r10.2) :: Bk b7 25 [vW 2, vI 1, vW 1, vI (-1), vW 0, vW 1] :: F) (fun bs17 => ?_) fun T21 => ?_
    · refine stage_st (fun _ h => st_pk 5 [3, 0, 1, 2, 4] (by decide) h) ?_
      refine stage rfl rfl rfl rfl [0, 0, 3, 0, 0, 31, 0, 63, 255, 0, 0, 0, 4095, 8191, 16383] [6, 7] [8] rfl rfl rfl (qc rfl rfl (s_u (o_mv rfl)) (qc rfl rfl (s_u (o_callq ca7 rfl (hawthornlaw16_first.ok _ rfl))) qn)) ?_ (fun h => absurd h (by decide))
      refine ec (eo_c rfl (s_w (o_call ca9 rfl (cell_Cell_Prepare.ok b4 r10.2 hawthornlaw16_first 6 r12 hr12))) ?_) en
      exact stage_st (fun _ h => st_pk 5 [1, 2, 3, 0, 4] (by decide) h) (T22 bs17)
    refine cutT (al := [(9, 33, [vB false, vW 0, vW 0, vW 0, vW 0, vI 0, vW 0, vI 0, vW 0, vW 0, vW 0, vI 0, vW 0, vI 0, vW 0, vW 0]), (10, 33, [vB false, vW 0, vW 0, vW 0, vW 0, vI 0, vW 0, vI 0, vW 0, vW 0, vW 0, vI 0, vW 0, vI 0, vW 0, vW 0]), (11, 33, [vB false, vW 0, vW 0, vW 0, vW 0, vI 0, vW 0, vI 0, vW 0, vW 0, vW 0, vI 0, vW 0, vI 0, vW 0, vW 0])]) [2] [(2, .agg (api_Promise.c r8.1).toArray), (0, pt b4 0), (1, .agg (api_View.c hawthornlaw16_first).toArray), (3, pt b4 0), (4, .agg [vW 2, vI 1, vW 1, vI (-1), vW 0, vW 1].toArray), (6, pt b4 0)] (Bk b4 42 (cell_Cell.c r8.2) :: Bk b7 25 [vW 2, vI 1, vW 1, vI (-1), vW 0, vW 1] :: F) (fun bs17 => ?_) fun T20 => ?_
    · refine stage_st (fun _ h => st_pk 5 [3, 0, 1, 2, 4] (by decide) h) ?_
      refine stage rfl rfl rfl rfl [0, 0, 3, 0, 0, 31, 0, 63, 255, 0, 0, 0, 4095, 8191, 16383] [3, 4, 6] [5] rfl rfl rfl (qc rfl rfl (s_u (o_mv rfl)) (qc rfl rfl (s_u (o_ldn 4 [vW 2, vI 1, vW 1, vI (-1), vW 0, vW 1] ag25 rfl rfl rfl rfl)) (qc rfl rfl (s_u (o_mv rfl)) qn))) ?_ (fun h => absurd h (by decide))
      refine ec (eo_c rfl (s_w (o_call ca10 rfl (cell_Cell_Accept.ok b4 r8.2 (⟨2, 1, 1, (-1), 0, 1⟩ : api_View) 5 r10 hr10))) ?_) en
      refine stage_ext [(7, .agg (api_View.c hawthornlaw16_first).toArray)] rfl ?_
      exact stage_st (fun _ h => st_pk 5 [1, 2, 3, 0, 4] (by decide) h) (T21 bs17)
    refine cutT (al := [(9, 33, [vB false, vW 0, vW 0, vW 0, vW 0, vI 0, vW 0, vI 0, vW 0, vW 0, vW 0, vI 0, vW 0, vI 0, vW 0, vW 0]), (10, 33, [vB false, vW 0, vW 0, vW 0, vW 0, vI 0, vW 0, vI 0, vW 0, vW 0, vW 0, vI 0, vW 0, vI 0, vW 0, vW 0]), (11, 33, [vB false, vW 0, vW 0, vW 0, vW 0, vI 0, vW 0, vI 0, vW 0, vW 0, vW 0, vI 0, vW 0, vI 0, vW 0, vW 0])]) [] [(0, pt b4 0), (1, .agg (api_View.c hawthornlaw16_first).toArray), (3, pt b4 0), (4, .agg [vW 2, vI 1, vW 1, vI (-1), vW 0, vW 1].toArray), (6, pt b4 0)] (Bk b4 42 (cell_Cell.c x3) :: Bk b7 25 [vW 2, vI 1, vW 1, vI (-1), vW 0, vW 1] :: F) (fun bs17 => ?_) fun T19 => ?_
    · refine stage_st (fun _ h => st_pk 5 [3, 0, 1, 2, 4] (by decide) h) ?_
      refine stage rfl rfl rfl rfl [0, 0, 3, 0, 0, 31, 0, 63, 255, 0, 0, 0, 4095, 8191, 16383] [0, 1, 3, 4, 6] [2] rfl rfl rfl (qc rfl rfl (s_u (o_mv rfl)) (qc rfl rfl (s_u (o_callq ca7 rfl (hawthornlaw16_first.ok _ rfl))) (qc rfl rfl (s_u (o_mv rfl)) (qc rfl rfl (s_u (o_ldn 4 [vW 2, vI 1, vW 1, vI (-1), vW 0, vW 1] ag25 rfl rfl rfl rfl)) (qc rfl rfl (s_u (o_mv rfl)) qn))))) ?_ (fun h => absurd h (by decide))
      refine ec (eo_c rfl (s_w (o_call ca9 rfl (cell_Cell_Prepare.ok b4 x3 hawthornlaw16_first 5 r8 hr8))) ?_) en
      exact stage_st (fun _ h => st_pk 5 [1, 2, 3, 0, 4] (by decide) h) (T20 bs17)
    refine stageF_st (L' := Bk b4 42 (cell_Cell.c x3) :: Bk b7 25 [vW 2, vI 1, vW 1, vI (-1), vW 0, vW 1] :: F) (fun _ _ h => st_pk 2 [1, 0] (by decide) h) ?_
    refine stageF_ext [(0, pt b4 0), (1, .agg (api_View.c hawthornlaw16_first).toArray), (3, pt b4 0), (4, .agg [vW 2, vI 1, vW 1, vI (-1), vW 0, vW 1].toArray), (6, pt b4 0)] rfl ?_
    refine stageA rfl rfl rfl rfl rfl rfl rfl [0, 0, 3, 0, 0, 31, 0, 63, 255, 0, 0, 0, 4095, 8191, 16383] [0, 1, 3, 4, 6] [2] rfl rfl rfl (tc rfl rfl (fun A => s_u (o_mv rfl)) (tc rfl rfl (fun A => s_u (o_callq ca7 rfl (hawthornlaw16_first.ok _ rfl))) (tc rfl rfl (fun A => s_u (o_mv rfl)) (tc rfl rfl (fun A => s_u (o_ldn 1 [vW 2, vI 1, vW 1, vI (-1), vW 0, vW 1] ag25 rfl rfl rfl rfl)) (tc rfl rfl (fun A => s_u (o_mv rfl)) tn))))) (ac rfl (fun A => s_w (o_al ze33)) (ac rfl (fun A => s_w (o_al ze33)) (ac rfl (fun A => s_w (o_al ze33)) an))) ?_ T19
    refine et_c (v := .agg (api_Promise.c r8.1).toArray) (L' := Bk b4 42 (cell_Cell.c r8.2) :: Bk b7 25 [vW 2, vI 1, vW 1, vI (-1), vW 0, vW 1] :: F) rfl (fun A => s_w (o_call ca9 rfl (cell_Cell_Prepare.ok b4 x3 hawthornlaw16_first 5 r8 hr8))) ?_
    refine stageA rfl rfl rfl rfl rfl rfl rfl [0, 0, 3, 0, 0, 31, 0, 63, 255, 0, 0, 0, 4095, 8191, 16383] [3, 4, 6] [5] rfl rfl rfl (tc rfl rfl (fun A => s_u (o_mv rfl)) (tc rfl rfl (fun A => s_u (o_ldn 1 [vW 2, vI 1, vW 1, vI (-1), vW 0, vW 1] ag25 rfl rfl rfl rfl)) (tc rfl rfl (fun A => s_u (o_mv rfl)) tn))) (ac rfl (fun A => s_w (o_al ze33)) (ac rfl (fun A => s_w (o_al ze33)) (ac rfl (fun A => s_w (o_al ze33)) an))) ?_ T20
    refine et_c (v := .agg (api_Promise.c r10.1).toArray) (L' := Bk b4 42 (cell_Cell.c r10.2) :: Bk b7 25 [vW 2, vI 1, vW 1, vI (-1), vW 0, vW 1] :: F) rfl (fun A => s_w (o_call ca10 rfl (cell_Cell_Accept.ok b4 r8.2 (⟨2, 1, 1, (-1), 0, 1⟩ : api_View) 5 r10 hr10))) ?_
    refine stageF_ext [(7, .agg (api_View.c hawthornlaw16_first).toArray)] rfl ?_
    refine stageA rfl rfl rfl rfl rfl rfl rfl [0, 0, 3, 0, 0, 31, 0, 63, 255, 0, 0, 0, 4095, 8191, 16383] [6, 7] [8] rfl rfl rfl (tc rfl rfl (fun A => s_u (o_mv rfl)) (tc rfl rfl (fun A => s_u (o_callq ca7 rfl (hawthornlaw16_first.ok _ rfl))) tn)) (ac rfl (fun A => s_w (o_al ze33)) (ac rfl (fun A => s_w (o_al ze33)) (ac rfl (fun A => s_w (o_al ze33)) an))) ?_ T21
    refine et_c (v := .agg (api_Promise.c r12.1).toArray) (L' := Bk b4 42 (cell_Cell.c r12.2) :: Bk b7 25 [vW 2, vI 1, vW 1, vI (-1), vW 0, vW 1] :: F) rfl (fun A => s_w (o_call ca9 rfl (cell_Cell_Prepare.ok b4 r10.2 hawthornlaw16_first 6 r12 hr12))) ?_
    exact stageA rfl rfl rfl rfl rfl rfl rfl [0, 0, 3, 0, 0, 31, 0, 63, 255, 0, 0, 0, 4095, 8191, 16383] [] [] rfl rfl rfl tn (ac rfl (fun A => s_w (o_al ze33)) (ac rfl (fun A => s_w (o_al ze33)) (ac rfl (fun A => s_w (o_al ze33)) an))) etn T22

def cell_Cell_Learn_n (a1 : api_View) : Bool :=
  false
theorem cell_Cell_Learn_n.ok {G R F} (a1 : api_View) (r : Bool) (hm : cell_Cell_Learn_n a1 = r) : CO Try.prog 13 [nl, .agg (api_View.c a1).toArray] G R (F)
    (Ret fun u R' L' => u = vB r ∧ R' = R ∧ L' = F) := by
  unfold cell_Cell_Learn_n at hm
  refine co_ofN (N := 26) Try.func13 rfl rfl ?_
  refine c_seq ?_
  refine c_reg ?_
  refine r_new (o_bx (api_View.c a1) rfl rfl) fun b0 => ?_
  refine r_u (o_as rfl) ?_
  refine r_nil ?_
  refine x_seq ?_
  refine c_seq ?_
  refine c_seq ?_
  refine c_any mixed (effs := []) (V := []) ?_
  refine stage_ext [(0, nl), (1, vB true), (2, vB true), (3, undef), (4, undef), (5, undef), (6, vB true), (7, vB true), (8, undef), (9, undef), (10, undef), (11, undef), (12, undef), (13, undef), (14, undef), (15, undef), (16, vB true)] rfl ?_
  refine stage rfl rfl rfl rfl [0, 1, 3, 7, 15, 31, 63, 127, 255, 511, 255, 1279, 3327, 7423, 15615, 32767, 65535] [0, 1, 2, 3, 4, 5, 6, 7, 8, 9, 10, 11, 12, 13, 14, 15, 16] [] rfl rfl rfl (qc rfl rfl (s_u (o_mv rfl)) (qc rfl rfl (s_u (o_bin rfl rfl (bP_eqn Try.underlying26))) (qc rfl rfl (s_u (o_mv rfl)) (qc rfl rfl (s_n rfl rfl rfl) (qc rfl rfl (s_n rfl rfl rfl) (qc rfl rfl (s_n rfl rfl rfl) (qc rfl rfl (s_u (o_pt rfl rfl rfl)) (qc rfl rfl (s_u (o_mv rfl)) (qc rfl rfl (s_n rfl rfl rfl) (qc rfl rfl (s_n rfl rfl rfl) (qc rfl rfl (s_n rfl rfl rfl) (qc rfl rfl (s_n rfl rfl rfl) (qc rfl rfl (s_n rfl rfl rfl) (qc rfl rfl (s_n rfl rfl rfl) (qc rfl rfl (s_n rfl rfl rfl) (qc rfl rfl (s_n rfl rfl rfl) (qc rfl rfl (s_u (o_pt rfl rfl rfl)) qn))))))))))))))))) en ?_
  intro _
  refine ex_sub (E' := [(0, nl), (3, pt b0 0), (21, vB true)]) ⟨rfl, rfl, rfl, trivial⟩ ?_
  refine x_seq ?_
  refine c_tt rfl ?_
  refine c_seq ?_
  refine c_reg ?_
  refine r_u (o_as rfl) ?_
  refine r_nil ?_
  refine x_seq ?_
  refine c_ret ?_
  subst hm
  refine ex_st (fun _ h => st_pk 1 [] (by decide) h) ?_
  exact x_r1 rfl (rv_t rfl) (Le.refl _) ⟨_, rfl, rfl, rfl, rfl⟩

def cell_Cell_Prepare_n (a1 : api_View) (a2 : UInt64) : api_Promise :=
  (⟨false, 0, 0, 0, (⟨0, 0, 0, 0, 0, 0⟩ : api_View), (⟨0, 0, 0, 0, 0, 0⟩ : api_View)⟩ : api_Promise)
theorem cell_Cell_Prepare_n.ok {G R F} (a1 : api_View) (a2 : UInt64) (r : api_Promise) (hm : cell_Cell_Prepare_n a1 a2 = r) : CO Try.prog 9 [nl, .agg (api_View.c a1).toArray, vW a2] G R (F)
    (Ret fun u R' L' => u = .agg (api_Promise.c r).toArray ∧ R' = R ∧ L' = F) := by
  unfold cell_Cell_Prepare_n at hm
  refine co_ofN (N := 35) Try.func9 rfl rfl ?_
  refine c_seq ?_
  refine c_reg ?_
  refine r_new (o_bx (api_View.c a1) rfl rfl) fun b0 => ?_
  refine r_new (o_al ze33) fun b1 => ?_
  refine r_nil ?_
  refine x_seq ?_
  refine c_seq ?_
  refine c_seq ?_
  refine c_reg ?_
  refine r_u (o_mv rfl) ?_
  refine r_u (o_bin rfl rfl (bP_eqn Try.underlying26)) ?_
  refine r_nil ?_
  refine x_seq ?_
  refine c_tt rfl ?_
  refine c_seq ?_
  refine c_reg ?_
  refine r_u (o_bld [vB false, vW 0, vW 0, vW 0, vW 0, vI 0, vW 0, vI 0, vW 0, vW 0, vW 0, vI 0, vW 0, vI 0, vW 0, vW 0] rfl (fun _ => by kernel_rfl)) ?_
  refine r_u0 (o_stn ag33 rfl rfl rfl rfl rfl rfl rfl) ?_
  refine r_nil ?_
  refine x_seq ?_
  refine c_ret ?_
  subst hm
  exact x_d1 rfl (rv_n 0 [vB false, vW 0, vW 0, vW 0, vW 0, vI 0, vW 0, vI 0, vW 0, vW 0, vW 0, vI 0, vW 0, vI 0, vW 0, vW 0] ag33 rfl rfl rfl rfl) (fun _ h => st_pk 2 [] (by decide) h) (Le.refl _) ⟨_, rfl, rfl, rfl, rfl⟩

def cell_Cell_Accept_n (a1 : api_View) (a2 : UInt64) : api_Promise :=
  (⟨false, 0, 0, 0, (⟨0, 0, 0, 0, 0, 0⟩ : api_View), (⟨0, 0, 0, 0, 0, 0⟩ : api_View)⟩ : api_Promise)
theorem cell_Cell_Accept_n.ok {G R F} (a1 : api_View) (a2 : UInt64) (r : api_Promise) (hm : cell_Cell_Accept_n a1 a2 = r) : CO Try.prog 10 [nl, .agg (api_View.c a1).toArray, vW a2] G R (F)
    (Ret fun u R' L' => u = .agg (api_Promise.c r).toArray ∧ R' = R ∧ L' = F) := by
  unfold cell_Cell_Accept_n at hm
  refine co_ofN (N := 52) Try.func10 rfl rfl ?_
  refine c_seq ?_
  refine c_reg ?_
  refine r_new (o_bx (api_View.c a1) rfl rfl) fun b0 => ?_
  refine r_new (o_al ze33) fun b1 => ?_
  refine r_nil ?_
  refine x_seq ?_
  refine c_seq ?_
  refine c_seq ?_
  refine c_reg ?_
  refine r_u (o_mv rfl) ?_
  refine r_u (o_bin rfl rfl (bP_eqn Try.underlying26)) ?_
  refine r_nil ?_
  refine x_seq ?_
  refine c_tt rfl ?_
  refine c_seq ?_
  refine c_reg ?_
  refine r_u (o_bld [vB false, vW 0, vW 0, vW 0, vW 0, vI 0, vW 0, vI 0, vW 0, vW 0, vW 0, vI 0, vW 0, vI 0, vW 0, vW 0] rfl (fun _ => by kernel_rfl)) ?_
  refine r_u0 (o_stn ag33 rfl rfl rfl rfl rfl rfl rfl) ?_
  refine r_nil ?_
  refine x_seq ?_
  refine c_ret ?_
  subst hm
  exact x_d1 rfl (rv_n 0 [vB false, vW 0, vW 0, vW 0, vW 0, vI 0, vW 0, vI 0, vW 0, vW 0, vW 0, vI 0, vW 0, vI 0, vW 0, vW 0] ag33 rfl rfl rfl rfl) (fun _ h => st_pk 2 [] (by decide) h) (Le.refl _) ⟨_, rfl, rfl, rfl, rfl⟩

def cell_Cell_Chosen_n  : api_View :=
  (⟨0, 0, 0, 0, 0, 0⟩ : api_View)
theorem cell_Cell_Chosen_n.ok {G R F} (r : api_View) (hm : cell_Cell_Chosen_n = r) : CO Try.prog 12 [nl] G R (F)
    (Ret fun u R' L' => u = .agg (api_View.c r).toArray ∧ R' = R ∧ L' = F) := by
  unfold cell_Cell_Chosen_n at hm
  refine co_ofN (N := 10) Try.func12 rfl rfl ?_
  refine c_seq ?_
  refine c_reg ?_
  refine r_new (o_al ze25) fun b0 => ?_
  refine r_nil ?_
  refine x_seq ?_
  refine c_seq ?_
  refine c_seq ?_
  refine c_reg ?_
  refine r_u (o_mv rfl) ?_
  refine r_u (o_bin rfl rfl (bP_eqn Try.underlying26)) ?_
  refine r_nil ?_
  refine x_seq ?_
  refine c_tt rfl ?_
  refine c_seq ?_
  refine c_reg ?_
  refine r_u (o_bld [vW 0, vI 0, vW 0, vI 0, vW 0, vW 0] rfl (fun _ => by kernel_rfl)) ?_
  refine r_u0 (o_stn ag25 rfl rfl rfl rfl rfl rfl rfl) ?_
  refine r_nil ?_
  refine x_seq ?_
  refine c_ret ?_
  subst hm
  exact x_d1 rfl (rv_n 0 [vW 0, vI 0, vW 0, vI 0, vW 0, vW 0] ag25 rfl rfl rfl rfl) (fun _ h => st_pk 1 [] (by decide) h) (Le.refl _) ⟨_, rfl, rfl, rfl, rfl⟩

def cell_Cell_Export_n  : Str :=
  []
theorem cell_Cell_Export_n.ok {G R F} (r : Str) (hm : cell_Cell_Export_n = r) : CO Try.prog 15 [nl] G R (F)
    (Ret fun u R' L' => u = vS r ∧ R' = R ∧ L' = F) := by
  unfold cell_Cell_Export_n at hm
  refine co_ofN (N := 28) Try.func15 rfl rfl ?_
  refine c_seq ?_
  refine c_reg ?_
  refine r_u (o_as rfl) ?_
  refine r_nil ?_
  refine x_seq ?_
  refine c_seq ?_
  refine c_seq ?_
  refine c_reg ?_
  refine r_u (o_mv rfl) ?_
  refine r_u (o_bin rfl rfl (bP_eqn Try.underlying26)) ?_
  refine r_nil ?_
  refine x_seq ?_
  refine c_tt rfl ?_
  refine c_seq ?_
  refine c_reg ?_
  refine r_u (o_as rfl) ?_
  refine r_nil ?_
  refine x_seq ?_
  refine c_ret ?_
  subst hm
  exact x_r1 rfl (rv_t rfl) (Le.refl _) ⟨_, rfl, rfl, rfl, rfl⟩

def hawthornref16_Check (a0 : api_View) : Bool :=
  if (((((a0.V == 0) || (a0.Epoch == 0)) || decide (a0.Primary < 0)) || decide (1048576 ≤ a0.Primary)) || (a0.PLife == 0)) then false else if (a0.Backup == (-1)) then (a0.BLife == 0) else (((decide (0 ≤ a0.Backup) && decide (a0.Backup < 1048576)) && decide (0 < a0.BLife)) && (a0.Backup != a0.Primary))
theorem hawthornref16_Check.ok {G R F} (a0 : api_View) (r : Bool) (hm : hawthornref16_Check a0 = r) : CO Try.prog 14 [.agg (api_View.c a0).toArray] G R (F)
    (Ret fun u R' L' => u = vB r ∧ R' = R ∧ L' = F) := by
  unfold hawthornref16_Check at hm
  refine co_ofN (N := 52) Try.func14 rfl rfl ?_
  refine c_seq ?_
  refine c_reg ?_
  refine r_new (o_bx (api_View.c a0) rfl rfl) fun b0 => ?_
  refine r_u (o_as rfl) ?_
  refine r_nil ?_
  refine x_seq ?_
  refine c_seq ?_
  refine c_seq ?_
  refine c_reg ?_
  refine r_u (o_fa fa25_0 rfl) ?_
  refine r_u (o_ld 0 sc23 rfl rfl rfl) ?_
  refine r_u (o_bin rfl rfl (bW_eq a0.V 0)) ?_
  refine r_u (o_mv rfl) ?_
  refine r_s (s_gf rfl rfl fun g => o_fa fa25_5 rfl) ?_
  refine r_s (s_gf rfl rfl fun g => o_ld 0 sc23 (evg rfl g) rfl rfl) ?_
  refine r_s (s_gf rfl rfl fun g => o_bin (evg rfl g) rfl (bW_eq a0.Epoch 0)) ?_
  refine r_u (o_or rfl rfl) ?_
  refine r_u (o_mv rfl) ?_
  refine r_s (s_gf rfl rfl fun g => o_fa fa25_1 rfl) ?_
  refine r_s (s_gf rfl rfl fun g => o_ld 0 sc3 (evg rfl g) rfl rfl) ?_
  refine r_s (s_gf rfl rfl fun g => o_bin (evg rfl g) rfl (bI_lt a0.Primary 0)) ?_
  refine r_u (o_or rfl rfl) ?_
  refine r_u (o_mv rfl) ?_
  refine r_s (s_gf rfl rfl fun g => o_fa fa25_1 rfl) ?_
  refine r_s (s_gf rfl rfl fun g => o_ld 0 sc3 (evg rfl g) rfl rfl) ?_
  refine r_s (s_gf rfl rfl fun g => o_bin (evg rfl g) rfl (bI_ge a0.Primary 1048576)) ?_
  refine r_u (o_or rfl rfl) ?_
  refine r_u (o_mv rfl) ?_
  refine r_s (s_gf rfl rfl fun g => o_fa fa25_2 rfl) ?_
  refine r_s (s_gf rfl rfl fun g => o_ld 0 sc23 (evg rfl g) rfl rfl) ?_
  refine r_s (s_gf rfl rfl fun g => o_bin (evg rfl g) rfl (bW_eq a0.PLife 0)) ?_
  refine r_u (o_or rfl rfl) ?_
  refine r_nil ?_
  refine x_seq ?_
  refine c_if (b := (((((a0.V == 0) || (a0.Epoch == 0)) || decide (a0.Primary < 0)) || decide (1048576 ≤ a0.Primary)) || (a0.PLife == 0))) rfl (fun h1 => ?_) fun h1 => ?_
  · have hm2 := ift hm h1
    refine c_seq ?_
    refine c_reg ?_
    refine r_u (o_as rfl) ?_
    refine r_nil ?_
    refine x_seq ?_
    refine c_ret ?_
    subst hm2
    refine ex_st (fun _ h => st_pk 1 [] (by decide) h) ?_
    exact x_r1 rfl (rv_t rfl) (Le.refl _) ⟨_, rfl, rfl, rfl, rfl⟩
  · have hm2 := iff_ hm h1
    refine c_skip ?_
    refine x_seq ?_
    refine c_seq ?_
    refine c_seq ?_
    refine c_reg ?_
    refine r_u (o_fa fa25_3 rfl) ?_
    refine r_u (o_ld 0 sc3 rfl rfl rfl) ?_
    refine r_u (o_bin rfl rfl (bI_eq a0.Backup (-1))) ?_
    refine r_nil ?_
    refine x_seq ?_
    refine c_if (b := (a0.Backup == (-1))) rfl (fun h3 => ?_) fun h3 => ?_
    · have hm4 := ift hm2 h3
      refine c_seq ?_
      refine c_reg ?_
      refine r_u (o_fa fa25_4 rfl) ?_
      refine r_u (o_ld 0 sc23 rfl rfl rfl) ?_
      refine r_u (o_bin rfl rfl (bW_eq a0.BLife 0)) ?_
      refine r_u (o_as rfl) ?_
      refine r_nil ?_
      refine x_seq ?_
      refine c_ret ?_
      subst hm4
      refine ex_st (fun _ h => st_pk 1 [] (by decide) h) ?_
      exact x_r1 rfl (rv_t rfl) (Le.refl _) ⟨_, rfl, rfl, rfl, rfl⟩
    · have hm4 := iff_ hm2 h3
      refine c_skip ?_
      refine x_seq ?_
      refine c_seq ?_
      refine c_reg ?_
      refine r_u (o_fa fa25_3 rfl) ?_
      refine r_u (o_ld 0 sc3 rfl rfl rfl) ?_
      refine r_u (o_bin rfl rfl (bI_ge a0.Backup 0)) ?_
      refine r_u (o_mv rfl) ?_
      refine r_s (s_gt rfl rfl fun g => o_fa fa25_3 rfl) ?_
      refine r_s (s_gt rfl rfl fun g => o_ld 0 sc3 (evg rfl g) rfl rfl) ?_
      refine r_s (s_gt rfl rfl fun g => o_bin (evg rfl g) rfl (bI_lt a0.Backup 1048576)) ?_
      refine r_u (o_and rfl rfl) ?_
      refine r_u (o_mv rfl) ?_
      refine r_s (s_gt rfl rfl fun g => o_fa fa25_4 rfl) ?_
      refine r_s (s_gt rfl rfl fun g => o_ld 0 sc23 (evg rfl g) rfl rfl) ?_
      refine r_s (s_gt rfl rfl fun g => o_bin (evg rfl g) rfl (bW_gt a0.BLife 0)) ?_
      refine r_u (o_and rfl rfl) ?_
      refine r_u (o_mv rfl) ?_
      refine r_s (s_gt rfl rfl fun g => o_fa fa25_3 rfl) ?_
      refine r_s (s_gt rfl rfl fun g => o_ld 0 sc3 (evg rfl g) rfl rfl) ?_
      refine r_s (s_gt rfl rfl fun g => o_fa fa25_1 rfl) ?_
      refine r_s (s_gt rfl rfl fun g => o_ld 0 sc3 (evg rfl g) rfl rfl) ?_
      refine r_s (s_gt rfl rfl fun g => o_bin (evg rfl g) (evg rfl g) (bI_ne a0.Backup a0.Primary)) ?_
      refine r_u (o_and rfl rfl) ?_
      refine r_u (o_as rfl) ?_
      refine r_nil ?_
      refine x_seq ?_
      refine c_ret ?_
      subst hm4
      refine ex_st (fun _ h => st_pk 1 [] (by decide) h) ?_
      exact x_r1 rfl (rv_t rfl) (Le.refl _) ⟨_, rfl, rfl, rfl, rfl⟩

def hawthornlaw16_CellNone (a0 : api_View) (a1 : UInt64) : Option Bool :=
  lt (cell_New a0) fun r1 => (hawthornlaw16_awake).bind fun r4 => om r1.1 (some (((((((r4 && !(cell_Cell_Learn_n a0)) && decide ((⟨(cell_Cell_Prepare_n a0 a1).OK, (cell_Cell_Prepare_n a0 a1).V, (cell_Cell_Prepare_n a0 a1).Most, (cell_Cell_Prepare_n a0 a1).Ballot, ((cell_Cell_Prepare_n a0 a1).Value), ((cell_Cell_Prepare_n a0 a1).Chosen)⟩ : api_Promise) = (⟨false, 0, 0, 0, (⟨0, 0, 0, 0, 0, 0⟩ : api_View), (⟨0, 0, 0, 0, 0, 0⟩ : api_View)⟩ : api_Promise))) && decide ((⟨(cell_Cell_Accept_n a0 a1).OK, (cell_Cell_Accept_n a0 a1).V, (cell_Cell_Accept_n a0 a1).Most, (cell_Cell_Accept_n a0 a1).Ballot, ((cell_Cell_Accept_n a0 a1).Value), ((cell_Cell_Accept_n a0 a1).Chosen)⟩ : api_Promise) = (⟨false, 0, 0, 0, (⟨0, 0, 0, 0, 0, 0⟩ : api_View), (⟨0, 0, 0, 0, 0, 0⟩ : api_View)⟩ : api_Promise))) && decide (cell_Cell_Chosen_n = (⟨0, 0, 0, 0, 0, 0⟩ : api_View))) && (cell_Cell_Export_n == [])) && ((r1.2 == 0) == (hawthornref16_Check a0))) && (false == (r1.2 == 0)))) fun x6 => some (((((((r4 && !(cell_Cell_Learn_n a0)) && decide ((⟨(cell_Cell_Prepare_n a0 a1).OK, (cell_Cell_Prepare_n a0 a1).V, (cell_Cell_Prepare_n a0 a1).Most, (cell_Cell_Prepare_n a0 a1).Ballot, ((cell_Cell_Prepare_n a0 a1).Value), ((cell_Cell_Prepare_n a0 a1).Chosen)⟩ : api_Promise) = (⟨false, 0, 0, 0, (⟨0, 0, 0, 0, 0, 0⟩ : api_View), (⟨0, 0, 0, 0, 0, 0⟩ : api_View)⟩ : api_Promise))) && decide ((⟨(cell_Cell_Accept_n a0 a1).OK, (cell_Cell_Accept_n a0 a1).V, (cell_Cell_Accept_n a0 a1).Most, (cell_Cell_Accept_n a0 a1).Ballot, ((cell_Cell_Accept_n a0 a1).Value), ((cell_Cell_Accept_n a0 a1).Chosen)⟩ : api_Promise) = (⟨false, 0, 0, 0, (⟨0, 0, 0, 0, 0, 0⟩ : api_View), (⟨0, 0, 0, 0, 0, 0⟩ : api_View)⟩ : api_Promise))) && decide (cell_Cell_Chosen_n = (⟨0, 0, 0, 0, 0, 0⟩ : api_View))) && (cell_Cell_Export_n == [])) && ((r1.2 == 0) == (hawthornref16_Check a0))) && (true == (r1.2 == 0)))
theorem hawthornlaw16_CellNone.ok {G R F} (a0 : api_View) (a1 : UInt64) (r : Bool) (hm : hawthornlaw16_CellNone a0 a1 = some r) : CO Try.prog 5 [.agg (api_View.c a0).toArray, vW a1] G R (F)
    (Ret fun u R' L' => u = vB r ∧ R' = R ∧ L' = F) := by
  unfold hawthornlaw16_CellNone at hm
  refine co_ofN (N := 61) Try.func5 rfl rfl ?_
  refine c_seq ?_
  refine c_reg ?_
  refine r_new (o_bx (api_View.c a0) rfl rfl) fun b0 => ?_
  refine r_u (o_as rfl) ?_
  refine r_nil ?_
  refine x_seq ?_
  refine c_seq ?_
  refine c_reg ?_
  refine r_u (o_as rfl) ?_
  refine r_nil ?_
  refine x_seq ?_
  refine c_seq ?_
  refine c_reg ?_
  refine r_u (o_ldn 0 (api_View.c a0) ag25 rfl rfl rfl rfl) ?_
  obtain ⟨r1, hr1, hm3⟩ := ltx hm
  refine r_sw (s_w (o_call ca6 rfl (cell_New.ok a0 r1 hr1))) ?_
  rintro _ _ _ _ ⟨pv2, rfl, rfl, rfl⟩
  refine r_u (o_mv rfl) ?_
  refine r_u (o_ext rfl rfl) ?_
  refine r_u (o_ext rfl rfl) ?_
  refine r_u (o_as rfl) ?_
  refine r_u (o_as rfl) ?_
  refine r_nil ?_
  refine x_seq ?_
  refine c_seq ?_
  obtain ⟨r4, hr4, hm5⟩ := bs hm3
  refine cd_opt (fun ho8 => ?_) (fun x6 b7 ho8 => ?_)
  · rintro rfl
    have hm9 := om_n hm5 ho8
    refine c_reg ?_
    refine r_u (o_callq ca8 rfl (hawthornlaw16_awake.ok r4 hr4)) ?_
    refine r_u (o_mv rfl) ?_
    refine r_s (s_gt rfl rfl fun g => o_mv rfl) ?_
    refine r_s (s_gt rfl rfl fun g => o_ldn 0 (api_View.c a0) ag25 rfl rfl rfl rfl) ?_
    refine r_s (s_gt rfl rfl fun g => o_callq ca13 (evs1 (evg rfl g) (evs1 (evg rfl g) evs0)) (cell_Cell_Learn_n.ok a0 _ rfl)) ?_
    refine r_s (s_gt rfl rfl fun g => o_not (evg rfl g)) ?_
    refine r_u (o_and rfl rfl) ?_
    refine r_u (o_mv rfl) ?_
    refine r_s (s_gt rfl rfl fun g => o_mv rfl) ?_
    refine r_s (s_gt rfl rfl fun g => o_ldn 0 (api_View.c a0) ag25 rfl rfl rfl rfl) ?_
    refine r_s (s_gt rfl rfl fun g => o_mv rfl) ?_
    refine r_s (s_gt rfl rfl fun g => o_callq ca9 (evs1 (evg rfl g) (evs1 (evg rfl g) (evs1 (evg rfl g) evs0))) (cell_Cell_Prepare_n.ok a0 a1 _ rfl)) ?_
    refine r_s (s_gt rfl rfl fun g => o_bld [vB false, vW 0, vW 0, vW 0, vW 0, vI 0, vW 0, vI 0, vW 0, vW 0, vW 0, vI 0, vW 0, vI 0, vW 0, vW 0] rfl (fun _ => by kernel_rfl)) ?_
    refine r_s (s_gt rfl rfl fun g => o_bin (evg rfl g) (evg rfl g) (api_Promise.beq_33 (⟨(cell_Cell_Prepare_n a0 a1).OK, (cell_Cell_Prepare_n a0 a1).V, (cell_Cell_Prepare_n a0 a1).Most, (cell_Cell_Prepare_n a0 a1).Ballot, ((cell_Cell_Prepare_n a0 a1).Value), ((cell_Cell_Prepare_n a0 a1).Chosen)⟩ : api_Promise) (⟨false, 0, 0, 0, (⟨0, 0, 0, 0, 0, 0⟩ : api_View), (⟨0, 0, 0, 0, 0, 0⟩ : api_View)⟩ : api_Promise))) ?_
    refine r_u (o_and rfl rfl) ?_
    refine r_u (o_mv rfl) ?_
    refine r_s (s_gt rfl rfl fun g => o_mv rfl) ?_
    refine r_s (s_gt rfl rfl fun g => o_ldn 0 (api_View.c a0) ag25 rfl rfl rfl rfl) ?_
    refine r_s (s_gt rfl rfl fun g => o_mv rfl) ?_
    refine r_s (s_gt rfl rfl fun g => o_callq ca10 (evs1 (evg rfl g) (evs1 (evg rfl g) (evs1 (evg rfl g) evs0))) (cell_Cell_Accept_n.ok a0 a1 _ rfl)) ?_
    refine r_s (s_gt rfl rfl fun g => o_bld [vB false, vW 0, vW 0, vW 0, vW 0, vI 0, vW 0, vI 0, vW 0, vW 0, vW 0, vI 0, vW 0, vI 0, vW 0, vW 0] rfl (fun _ => by kernel_rfl)) ?_
    refine r_s (s_gt rfl rfl fun g => o_bin (evg rfl g) (evg rfl g) (api_Promise.beq_33 (⟨(cell_Cell_Accept_n a0 a1).OK, (cell_Cell_Accept_n a0 a1).V, (cell_Cell_Accept_n a0 a1).Most, (cell_Cell_Accept_n a0 a1).Ballot, ((cell_Cell_Accept_n a0 a1).Value), ((cell_Cell_Accept_n a0 a1).Chosen)⟩ : api_Promise) (⟨false, 0, 0, 0, (⟨0, 0, 0, 0, 0, 0⟩ : api_View), (⟨0, 0, 0, 0, 0, 0⟩ : api_View)⟩ : api_Promise))) ?_
    refine r_u (o_and rfl rfl) ?_
    refine r_u (o_mv rfl) ?_
    refine r_s (s_gt rfl rfl fun g => o_mv rfl) ?_
    refine r_s (s_gt rfl rfl fun g => o_callq ca12 (evs1 (evg rfl g) evs0) (cell_Cell_Chosen_n.ok _ rfl)) ?_
    refine r_s (s_gt rfl rfl fun g => o_bld [vW 0, vI 0, vW 0, vI 0, vW 0, vW 0] rfl (fun _ => by kernel_rfl)) ?_
    refine r_s (s_gt rfl rfl fun g => o_bin (evg rfl g) (evg rfl g) (api_View.beq_25 cell_Cell_Chosen_n (⟨0, 0, 0, 0, 0, 0⟩ : api_View))) ?_
    refine r_u (o_and rfl rfl) ?_
    refine r_u (o_mv rfl) ?_
    refine r_s (s_gt rfl rfl fun g => o_mv rfl) ?_
    refine r_s (s_gt rfl rfl fun g => o_callq ca15 (evs1 (evg rfl g) evs0) (cell_Cell_Export_n.ok _ rfl)) ?_
    refine r_s (s_gt rfl rfl fun g => o_bin (evg rfl g) rfl (bS_eq cell_Cell_Export_n [])) ?_
    refine r_u (o_and rfl rfl) ?_
    refine r_u (o_mv rfl) ?_
    refine r_s (s_gt rfl rfl fun g => o_mv rfl) ?_
    refine r_s (s_gt rfl rfl fun g => o_bin (evg rfl g) rfl (bI_eq r1.2 0)) ?_
    refine r_s (s_gt rfl rfl fun g => o_ldn 0 (api_View.c a0) ag25 rfl rfl rfl rfl) ?_
    refine r_s (s_gt rfl rfl fun g => o_callq ca14 (evs1 (evg rfl g) evs0) (hawthornref16_Check.ok a0 _ rfl)) ?_
    refine r_s (s_gt rfl rfl fun g => o_bin (evg rfl g) (evg rfl g) (bB_eq Try.underlying4 (r1.2 == 0) (hawthornref16_Check a0))) ?_
    refine r_u (o_and rfl rfl) ?_
    refine r_u (o_mv rfl) ?_
    refine r_s (s_gt rfl rfl fun g => o_mv rfl) ?_
    refine r_s (s_gt rfl rfl fun g => o_bin (evg rfl g) rfl (bP_nen Try.underlying26)) ?_
    refine r_s (s_gt rfl rfl fun g => o_mv rfl) ?_
    refine r_s (s_gt rfl rfl fun g => o_bin (evg rfl g) rfl (bI_eq r1.2 0)) ?_
    refine r_s (s_gt rfl rfl fun g => o_bin (evg rfl g) (evg rfl g) (bB_eq Try.underlying4 false (r1.2 == 0))) ?_
    refine r_u (o_and rfl rfl) ?_
    refine r_u (o_as rfl) ?_
    refine r_nil ?_
    refine x_seq ?_
    refine c_ret ?_
    obtain rfl := Option.some.inj hm9
    refine ex_st (fun _ h => st_pk 1 [] (by decide) h) ?_
    exact x_r1 rfl (rv_t rfl) (Le.refl _) ⟨_, rfl, rfl, rfl, rfl⟩
  · rintro rfl
    have hm9 := om_s hm5 ho8
    refine c_reg ?_
    refine r_u (o_callq ca8 rfl (hawthornlaw16_awake.ok r4 hr4)) ?_
    refine r_u (o_mv rfl) ?_
    refine r_s (s_gt rfl rfl fun g => o_mv rfl) ?_
    refine r_s (s_gt rfl rfl fun g => o_ldn 1 (api_View.c a0) ag25 rfl rfl rfl rfl) ?_
    refine r_s (s_gt rfl rfl fun g => o_callq ca13 (evs1 (evg rfl g) (evs1 (evg rfl g) evs0)) (cell_Cell_Learn_n.ok a0 _ rfl)) ?_
    refine r_s (s_gt rfl rfl fun g => o_not (evg rfl g)) ?_
    refine r_u (o_and rfl rfl) ?_
    refine r_u (o_mv rfl) ?_
    refine r_s (s_gt rfl rfl fun g => o_mv rfl) ?_
    refine r_s (s_gt rfl rfl fun g => o_ldn 1 (api_View.c a0) ag25 rfl rfl rfl rfl) ?_
    refine r_s (s_gt rfl rfl fun g => o_mv rfl) ?_
    refine r_s (s_gt rfl rfl fun g => o_callq ca9 (evs1 (evg rfl g) (evs1 (evg rfl g) (evs1 (evg rfl g) evs0))) (cell_Cell_Prepare_n.ok a0 a1 _ rfl)) ?_
    refine r_s (s_gt rfl rfl fun g => o_bld [vB false, vW 0, vW 0, vW 0, vW 0, vI 0, vW 0, vI 0, vW 0, vW 0, vW 0, vI 0, vW 0, vI 0, vW 0, vW 0] rfl (fun _ => by kernel_rfl)) ?_
    refine r_s (s_gt rfl rfl fun g => o_bin (evg rfl g) (evg rfl g) (api_Promise.beq_33 (⟨(cell_Cell_Prepare_n a0 a1).OK, (cell_Cell_Prepare_n a0 a1).V, (cell_Cell_Prepare_n a0 a1).Most, (cell_Cell_Prepare_n a0 a1).Ballot, ((cell_Cell_Prepare_n a0 a1).Value), ((cell_Cell_Prepare_n a0 a1).Chosen)⟩ : api_Promise) (⟨false, 0, 0, 0, (⟨0, 0, 0, 0, 0, 0⟩ : api_View), (⟨0, 0, 0, 0, 0, 0⟩ : api_View)⟩ : api_Promise))) ?_
    refine r_u (o_and rfl rfl) ?_
    refine r_u (o_mv rfl) ?_
    refine r_s (s_gt rfl rfl fun g => o_mv rfl) ?_
    refine r_s (s_gt rfl rfl fun g => o_ldn 1 (api_View.c a0) ag25 rfl rfl rfl rfl) ?_
    refine r_s (s_gt rfl rfl fun g => o_mv rfl) ?_
    refine r_s (s_gt rfl rfl fun g => o_callq ca10 (evs1 (evg rfl g) (evs1 (evg rfl g) (evs1 (evg rfl g) evs0))) (cell_Cell_Accept_n.ok a0 a1 _ rfl)) ?_
    refine r_s (s_gt rfl rfl fun g => o_bld [vB false, vW 0, vW 0, vW 0, vW 0, vI 0, vW 0, vI 0, vW 0, vW 0, vW 0, vI 0, vW 0, vI 0, vW 0, vW 0] rfl (fun _ => by kernel_rfl)) ?_
    refine r_s (s_gt rfl rfl fun g => o_bin (evg rfl g) (evg rfl g) (api_Promise.beq_33 (⟨(cell_Cell_Accept_n a0 a1).OK, (cell_Cell_Accept_n a0 a1).V, (cell_Cell_Accept_n a0 a1).Most, (cell_Cell_Accept_n a0 a1).Ballot, ((cell_Cell_Accept_n a0 a1).Value), ((cell_Cell_Accept_n a0 a1).Chosen)⟩ : api_Promise) (⟨false, 0, 0, 0, (⟨0, 0, 0, 0, 0, 0⟩ : api_View), (⟨0, 0, 0, 0, 0, 0⟩ : api_View)⟩ : api_Promise))) ?_
    refine r_u (o_and rfl rfl) ?_
    refine r_u (o_mv rfl) ?_
    refine r_s (s_gt rfl rfl fun g => o_mv rfl) ?_
    refine r_s (s_gt rfl rfl fun g => o_callq ca12 (evs1 (evg rfl g) evs0) (cell_Cell_Chosen_n.ok _ rfl)) ?_
    refine r_s (s_gt rfl rfl fun g => o_bld [vW 0, vI 0, vW 0, vI 0, vW 0, vW 0] rfl (fun _ => by kernel_rfl)) ?_
    refine r_s (s_gt rfl rfl fun g => o_bin (evg rfl g) (evg rfl g) (api_View.beq_25 cell_Cell_Chosen_n (⟨0, 0, 0, 0, 0, 0⟩ : api_View))) ?_
    refine r_u (o_and rfl rfl) ?_
    refine r_u (o_mv rfl) ?_
    refine r_s (s_gt rfl rfl fun g => o_mv rfl) ?_
    refine r_s (s_gt rfl rfl fun g => o_callq ca15 (evs1 (evg rfl g) evs0) (cell_Cell_Export_n.ok _ rfl)) ?_
    refine r_s (s_gt rfl rfl fun g => o_bin (evg rfl g) rfl (bS_eq cell_Cell_Export_n [])) ?_
    refine r_u (o_and rfl rfl) ?_
    refine r_u (o_mv rfl) ?_
    refine r_s (s_gt rfl rfl fun g => o_mv rfl) ?_
    refine r_s (s_gt rfl rfl fun g => o_bin (evg rfl g) rfl (bI_eq r1.2 0)) ?_
    refine r_s (s_gt rfl rfl fun g => o_ldn 1 (api_View.c a0) ag25 rfl rfl rfl rfl) ?_
    refine r_s (s_gt rfl rfl fun g => o_callq ca14 (evs1 (evg rfl g) evs0) (hawthornref16_Check.ok a0 _ rfl)) ?_
    refine r_s (s_gt rfl rfl fun g => o_bin (evg rfl g) (evg rfl g) (bB_eq Try.underlying4 (r1.2 == 0) (hawthornref16_Check a0))) ?_
    refine r_u (o_and rfl rfl) ?_
    refine r_u (o_mv rfl) ?_
    refine r_s (s_gt rfl rfl fun g => o_mv rfl) ?_
    refine r_s (s_gt rfl rfl fun g => o_bin (evg rfl g) rfl (bP_nep Try.underlying26)) ?_
    refine r_s (s_gt rfl rfl fun g => o_mv rfl) ?_
    refine r_s (s_gt rfl rfl fun g => o_bin (evg rfl g) rfl (bI_eq r1.2 0)) ?_
    refine r_s (s_gt rfl rfl fun g => o_bin (evg rfl g) (evg rfl g) (bB_eq Try.underlying4 true (r1.2 == 0))) ?_
    refine r_u (o_and rfl rfl) ?_
    refine r_u (o_as rfl) ?_
    refine r_nil ?_
    refine x_seq ?_
    refine c_ret ?_
    obtain rfl := Option.some.inj hm9
    refine ex_st (fun _ h => st_pk 2 [] (by decide) h) ?_
    exact x_r1 rfl (rv_t rfl) (Le.refl _) ⟨_, rfl, rfl, rfl, rfl⟩

def hawthornlaw16_CellBallots_l1 (a0 : List UInt64) (a1 : api_View) : Nat → UInt64 → Int → cell_Cell → Option (cell_Cell ⊕ Bool)
  | 0, _, _, _ => none
  | k20 + 1, most_17, i_18, c_19 => if (decide (i_18 < (a0.length : Int)) && decide (i_18 < 30)) then Option.bind (Option.bind (if ((i_18.tmod 2) == 0) then (gi a0 i_18).bind fun x45 => lt (cell_Cell_Prepare c_19 hawthornlaw16_first x45) fun r47 => if (r47.1.OK != (decide (most_17 < x45))) then some (Sum.inr (Sum.inr (Sum.inr false))) else some (Sum.inl r47.2) else (gi a0 i_18).bind fun x56 => lt (cell_Cell_Accept c_19 (⟨2, a1.Primary, a1.PLife, a1.Backup, a1.BLife, a1.Epoch⟩ : api_View) x56) fun r58 => if (r58.1.OK != (((cell_Check (⟨2, a1.Primary, a1.PLife, a1.Backup, a1.BLife, a1.Epoch⟩ : api_View)) && decide (most_17 ≤ x56)) && decide (0 < x56))) then some (Sum.inr (Sum.inr (Sum.inr false))) else if !r58.1.OK then some (Sum.inr (Sum.inl (most_17, r58.2))) else some (Sum.inl r58.2)) fun (p30 : cell_Cell ⊕ ((UInt64 × cell_Cell) ⊕ (cell_Cell ⊕ Bool))) => match p30 with | Sum.inl q31 => (gi a0 i_18).bind fun x35 => Option.bind (if decide (most_17 < x35) then some x35 else some most_17) fun p37 => some (Sum.inl (p37, q31)) | Sum.inr r => some r) fun (p25 : (UInt64 × cell_Cell) ⊕ (cell_Cell ⊕ Bool)) => match p25 with | Sum.inl q26 => hawthornlaw16_CellBallots_l1 a0 a1 k20 q26.1 (i64 (i_18 + 1)) q26.2 | Sum.inr r => some r else some (Sum.inl c_19)
def hawthornlaw16_CellBallots (a0 : List UInt64) (a1 : api_View) : Option Bool :=
  lt (cell_New hawthornlaw16_first) fun r1 => om r1.1 (none) fun x4 => (hawthornlaw16_awake).bind fun r8 => if (!r8 || (r1.2 != 0)) then some false else Option.bind (hawthornlaw16_CellBallots_l1 a0 a1 (((a0.length : Int) - 0).toNat + 1) 0 0 x4) fun (p12 : cell_Cell ⊕ Bool) => match p12 with | Sum.inl q13 => some true | Sum.inr r => some r
theorem hawthornlaw16_CellBallots.ok {G R F} (v0 : Value) (a0 : List UInt64) (h0 : RoS R v0 1 (fun x => [vW x]) a0) (a1 : api_View) (r : Bool) (hm : hawthornlaw16_CellBallots a0 a1 = some r) : CO Try.prog 3 [v0, .agg (api_View.c a1).toArray] G R (F)
    (Ret fun u R' L' => u = vB r ∧ R' = R ∧ L' = F) := by
  unfold hawthornlaw16_CellBallots at hm
  refine co_ofN (N := 92) Try.func3 rfl rfl ?_
  refine c_seq ?_
  refine c_reg ?_
  refine r_new (o_bx (api_View.c a1) rfl rfl) fun b0 => ?_
  refine r_u (o_as rfl) ?_
  refine r_nil ?_
  refine x_seq ?_
  refine c_seq ?_
  refine c_reg ?_
  refine r_u (o_callq ca7 rfl (hawthornlaw16_first.ok _ rfl)) ?_
  obtain ⟨r1, hr1, hm3⟩ := ltx hm
  refine r_sw (s_w (o_call ca6 rfl (cell_New.ok hawthornlaw16_first r1 hr1))) ?_
  rintro _ _ _ _ ⟨pv2, rfl, rfl, rfl⟩
  refine r_u (o_mv rfl) ?_
  refine r_u (o_ext rfl rfl) ?_
  refine r_u (o_ext rfl rfl) ?_
  refine r_u (o_as rfl) ?_
  refine r_u (o_as rfl) ?_
  refine r_nil ?_
  refine x_seq ?_
  refine c_seq ?_
  refine c_seq ?_
  refine cd_opt (fun ho6 => ?_) (fun x4 b5 ho6 => ?_)
  · rintro rfl
    have hm7 := om_n hm3 ho6
    cases hm7
  · rintro rfl
    have hm7 := om_s hm3 ho6
    refine c_reg ?_
    obtain ⟨r8, hr8, hm9⟩ := bs hm7
    refine r_u (o_callq ca8 rfl (hawthornlaw16_awake.ok r8 hr8)) ?_
    refine r_u (o_not rfl) ?_
    refine r_u (o_mv rfl) ?_
    refine r_s (s_gf rfl rfl fun g => o_mv rfl) ?_
    refine r_s (s_gf rfl rfl fun g => o_bin (evg rfl g) rfl (bI_ne r1.2 0)) ?_
    refine r_u (o_or rfl rfl) ?_
    refine r_nil ?_
    refine x_seq ?_
    refine c_if (b := (!r8 || (r1.2 != 0))) rfl (fun h10 => ?_) fun h10 => ?_
    · have hm11 := ift hm9 h10
      refine c_seq ?_
      refine c_reg ?_
      refine r_u (o_as rfl) ?_
      refine r_nil ?_
      refine x_seq ?_
      refine c_ret ?_
      obtain rfl := Option.some.inj hm11
      refine ex_st (fun _ h => st_pk 2 [] (by decide) h) ?_
      exact x_r1 rfl (rv_t rfl) (Le.refl _) ⟨_, rfl, rfl, rfl, rfl⟩
    · have hm11 := iff_ hm9 h10
      refine c_skip ?_
      refine x_seq ?_
      refine c_seq ?_
      refine c_reg ?_
      refine r_u (o_fa fa25_0 rfl) ?_
      refine rl_st (fun _ h => st_pk 2 [1, 0] (by decide) h) ?_
      refine r_u0 (o_st sc23 rfl rfl rfl rfl rfl rfl) ?_
      refine r_nil ?_
      refine x_seq ?_
      refine c_seq ?_
      refine c_reg ?_
      refine r_u (o_as rfl) ?_
      refine r_nil ?_
      refine x_seq ?_
      refine c_seq ?_
      refine c_seq ?_
      refine c_reg ?_
      refine r_u (o_as rfl) ?_
      refine r_nil ?_
      refine x_seq ?_
      obtain ⟨p12, hp14, hm15⟩ := bs hm11
      refine cd_joinS (p := p12) (Ef := fun q13 => []) (Lf := fun q13 => Bk b0 25 [vW 2, vI a1.Primary, vW a1.PLife, vI a1.Backup, vW a1.BLife, vW a1.Epoch] :: Bk b5 42 (cell_Cell.c q13) :: F) (fun q13 hq => ?_) fun K16 => ?_
      · subst hq
        try dsimp only at hm15
        refine x_seq ?_
        refine c_seq ?_
        refine c_reg ?_
        refine r_u (o_as rfl) ?_
        refine r_nil ?_
        refine x_seq ?_
        refine c_ret ?_
        obtain rfl := Option.some.inj hm15
        refine ex_st (fun _ h => st_pk 2 [] (by decide) h) ?_
        exact x_r1 rfl (rv_t rfl) (Le.refl _) ⟨_, rfl, rfl, rfl, rfl⟩
      · refine c_blk ?_
        refine cd_loop (M := fun k20 (s : UInt64 × Int × cell_Cell) => hawthornlaw16_CellBallots_l1 a0 a1 k20 s.1 s.2.1 s.2.2 = some p12) (Ef := fun (s : UInt64 × Int × cell_Cell) => [(0, v0), (3, pt b0 0), (5, pt b5 0), (7, vW s.1), (8, vI s.2.1)]) (Lf := fun (s : UInt64 × Int × cell_Cell) => Bk b0 25 [vW 2, vI a1.Primary, vW a1.PLife, vI a1.Backup, vW a1.BLife, vW a1.Epoch] :: Bk b5 42 (cell_Cell.c s.2.2) :: F) (((a0.length : Int) - 0).toNat + 1) (0, 0, x4) hp14 ⟨rfl, rfl, rfl, rfl, rfl, trivial⟩ (fun _ h => h) (fun _ h => by cases h) fun k20 s hM22 => ?_
        obtain ⟨most_17, i_18, c_19⟩ := s
        have hm21 : hawthornlaw16_CellBallots_l1 a0 a1 (k20 + 1) most_17 i_18 c_19 = some p12 := hM22
        rw [hawthornlaw16_CellBallots_l1] at hm21
        refine c_seq ?_
        refine c_seq ?_
        refine c_reg ?_
        refine r_u (o_mv rfl) ?_
        refine r_u (o_mv rfl) ?_
        refine r_u (o_lenR Try.underlying22 rfl h0) ?_
        refine r_u (o_bin rfl rfl (bI_lt i_18 (a0.length : Int))) ?_
        refine r_u (o_mv rfl) ?_
        refine r_s (s_gt rfl rfl fun g => o_mv rfl) ?_
        refine r_s (s_gt rfl rfl fun g => o_bin (evg rfl g) rfl (bI_lt i_18 30)) ?_
        refine r_u (o_and rfl rfl) ?_
        refine r_nil ?_
        refine x_seq ?_
        refine c_if (b := (decide (i_18 < (a0.length : Int)) && decide (i_18 < 30))) rfl (fun h23 => ?_) fun h23 => ?_
        · have hm24 := ift hm21 h23
          refine c_skip ?_
          refine x_seq ?_
          refine c_seq ?_
          obtain ⟨p25, hp27, hm28⟩ := bs hm24
          refine cd_joinS (p := p25) (Ef := fun q26 => [(0, v0), (3, pt b0 0), (5, pt b5 0), (8, vI i_18), (7, vW q26.1)]) (Lf := fun q26 => Bk b5 42 (cell_Cell.c q26.2) :: Bk b0 25 [vW 2, vI a1.Primary, vW a1.PLife, vI a1.Backup, vW a1.BLife, vW a1.Epoch] :: F) (fun q26 hq => ?_) fun K29 => ?_
          · subst hq
            try dsimp only at hm28
            refine x_seq ?_
            refine c_reg ?_
            refine r_u (o_mv rfl) ?_
            refine r_u (o_bin rfl rfl (bI_add i_18 1)) ?_
            refine r_u (o_as rfl) ?_
            refine r_nil ?_
            exact x_lp (q26.1, i64 (i_18 + 1), q26.2) hm28 ⟨rfl, rfl, rfl, rfl, rfl, trivial⟩ (fun _ h => st_pk 2 [1, 0] (by decide) h)
          · refine c_blk ?_
            refine c_seq ?_
            refine c_seq ?_
            refine c_reg ?_
            refine r_u (o_mv rfl) ?_
            refine r_u (o_bin rfl rfl (bI_rem i_18 2 (by decide))) ?_
            refine r_u (o_bin rfl rfl (bI_eq (i_18.tmod 2) 0)) ?_
            refine r_nil ?_
            refine x_seq ?_
            obtain ⟨p30, hp32, hm33⟩ := bs hp27
            refine cd_joinS (p := p30) (Ef := fun q31 => [(0, v0), (3, pt b0 0), (5, pt b5 0), (7, vW most_17), (8, vI i_18)]) (Lf := fun q31 => Bk b5 42 (cell_Cell.c q31) :: Bk b0 25 [vW 2, vI a1.Primary, vW a1.PLife, vI a1.Backup, vW a1.BLife, vW a1.Epoch] :: F) (fun q31 hq => ?_) fun K34 => ?_
            · subst hq
              try dsimp only at hm33
              refine x_seq ?_
              refine c_seq ?_
              refine c_reg ?_
              refine r_u (o_mv rfl) ?_
              refine r_u (o_mv rfl) ?_
              obtain ⟨x35, hx35, hm36⟩ := bs hm33
              obtain ⟨b35, o35, l35, T35, fr35, c35, hv35, hR35, he35, hi35⟩ := RoS.ne h0 hx35
              refine r_u (o_ix (sz := 1) Try.underlying22 (fun _ => by kernel_rfl) rfl rfl hv35 hi35) ?_
              refine r_u (o_ldR sc23 rfl hR35 (rok 0 he35 (by decide))) ?_
              refine r_u (o_mv rfl) ?_
              refine r_u (o_bin rfl rfl (bW_gt x35 most_17)) ?_
              refine r_nil ?_
              refine x_seq ?_
              obtain ⟨p37, hp38, hm39⟩ := bs hm36
              refine cd_join (E' := [(0, v0), (3, pt b0 0), (5, pt b5 0), (8, vI i_18), (7, vW p37)]) (L' := Bk b5 42 (cell_Cell.c q31) :: Bk b0 25 [vW 2, vI a1.Primary, vW a1.PLife, vI a1.Backup, vW a1.BLife, vW a1.Epoch] :: F) ?_ fun K40 => ?_
              · refine x_blk ?_
                obtain rfl := Option.some.inj hm39
                exact x_sub (K29 _ rfl) ⟨rfl, rfl, rfl, rfl, rfl, trivial⟩ (fun _ h => st_pk 2 [0, 1] (by decide) h)
              · refine c_if (b := decide (most_17 < x35)) rfl (fun h41 => ?_) fun h41 => ?_
                · have hm42 := ift hp38 h41
                  refine c_reg ?_
                  refine r_u (o_mv rfl) ?_
                  refine r_u (o_mv rfl) ?_
                  refine r_u (o_ix (sz := 1) Try.underlying22 (fun _ => by kernel_rfl) rfl rfl hv35 hi35) ?_
                  refine r_u (o_ldR sc23 rfl hR35 (rok 0 he35 (by decide))) ?_
                  refine r_u (o_as rfl) ?_
                  refine r_nil ?_
                  obtain rfl := Option.some.inj hm42
                  exact x_sub (K40) ⟨rfl, rfl, rfl, rfl, rfl, trivial⟩ (fun _ h => st_pk 2 [0, 1] (by decide) h)
                · have hm42 := iff_ hp38 h41
                  refine c_skip ?_
                  obtain rfl := Option.some.inj hm42
                  exact x_sub (K40) ⟨rfl, rfl, rfl, rfl, rfl, trivial⟩ (fun _ h => st_pk 2 [0, 1] (by decide) h)
            · refine c_if (b := ((i_18.tmod 2) == 0)) rfl (fun h43 => ?_) fun h43 => ?_
              · have hm44 := ift hp32 h43
                refine c_seq ?_
                obtain ⟨x45, hx45, hm46⟩ := bs hm44
                obtain ⟨b45, o45, l45, T45, fr45, c45, hv45, hR45, he45, hi45⟩ := RoS.ne h0 hx45
                obtain ⟨r47, hr47, hm48⟩ := ltx hm46
                refine c_anyF mixed (effs := [6, 8]) (fr := alF [(7, 33, [vB false, vW 0, vW 0, vW 0, vW 0, vI 0, vW 0, vI 0, vW 0, vW 0, vW 0, vI 0, vW 0, vI 0, vW 0, vW 0])]) (V := []) rfl ?_
                refine cutT (al := [(7, 33, [vB false, vW 0, vW 0, vW 0, vW 0, vI 0, vW 0, vI 0, vW 0, vW 0, vW 0, vI 0, vW 0, vI 0, vW 0, vW 0])]) [6] [(6, .agg (api_Promise.c r47.1).toArray), (0, pt b5 0), (1, .agg (api_View.c hawthornlaw16_first).toArray), (2, v0), (3, vI i_18), (4, pt b45 (o45 + i_18.toNat * 1)), (5, vW x45)] (Bk b5 42 (cell_Cell.c r47.2) :: Bk b0 25 [vW 2, vI a1.Primary, vW a1.PLife, vI a1.Backup, vW a1.BLife, vW a1.Epoch] :: F) (fun bs50 => ?_) fun T53 => ?_
                · refine stage rfl rfl rfl rfl [0, 0, 0, 0, 12, 28, 63, 0, 255] [] [8] rfl rfl rfl qn ?_ (fun h => absurd h (by decide))
                  refine ec (eo_u rfl (s_u (o_stn ag33 rfl rfl rfl rfl rfl rfl rfl)) (Le.refl _) ?_) en
                  refine stage rfl rfl rfl rfl [0, 0, 0, 0, 12, 28, 63, 0, 255] [] [] rfl rfl rfl qn en ?_
                  intro _
                  refine ex_sub (E' := [(0, v0), (3, pt b0 0), (5, pt b5 0), (7, vW most_17), (8, vI i_18), (9, pt (bs50 7) 0)]) ⟨rfl, rfl, rfl, rfl, rfl, rfl, trivial⟩ ?_
                  refine x_seq ?_
                  refine c_seq ?_
                  refine c_any mixed (effs := []) (V := []) ?_
                  refine stage_ext [(0, pt (bs50 7) 0), (1, vB r47.1.OK), (2, v0), (3, vI i_18), (4, pt b45 (o45 + i_18.toNat * 1)), (5, vW x45), (6, vW most_17), (7, vB (decide (most_17 < x45))), (8, vB (r47.1.OK != (decide (most_17 < x45))))] rfl ?_
                  refine stage rfl rfl rfl rfl [0, 1, 0, 0, 12, 28, 0, 124, 255] [0, 1, 2, 3, 4, 5, 6, 7, 8] [] rfl rfl rfl (qc rfl rfl (s_u (o_fa fa33_0 rfl)) (qc rfl rfl (s_u (o_ld 0 sc4 rfl rfl rfl)) (qc rfl rfl (s_u (o_mv rfl)) (qc rfl rfl (s_u (o_mv rfl)) (qc rfl rfl (s_u (o_ix (sz := 1) Try.underlying22 (fun _ => by kernel_rfl) rfl rfl hv45 hi45)) (qc rfl rfl (s_u (o_ldR sc23 rfl hR45 (rok 0 he45 (by decide)))) (qc rfl rfl (s_u (o_mv rfl)) (qc rfl rfl (s_u (o_bin rfl rfl (bW_gt x45 most_17))) (qc rfl rfl (s_u (o_bin rfl rfl (bB_ne Try.underlying4 r47.1.OK (decide (most_17 < x45))))) qn))))))))) en ?_
                  intro _
                  refine ex_sub (E' := [(0, v0), (3, pt b0 0), (5, pt b5 0), (7, vW most_17), (8, vI i_18), (51, vB (r47.1.OK != (decide (most_17 < x45))))]) ⟨rfl, rfl, rfl, rfl, rfl, rfl, trivial⟩ ?_
                  refine x_seq ?_
                  refine c_if (b := (r47.1.OK != (decide (most_17 < x45)))) rfl (fun h54 => ?_) fun h54 => ?_
                  · have hm55 := ift hm48 h54
                    refine c_seq ?_
                    refine c_reg ?_
                    refine r_u (o_as rfl) ?_
                    refine r_nil ?_
                    refine x_seq ?_
                    refine c_ret ?_
                    obtain rfl := Option.some.inj hm55
                    try dsimp only at hm33
                    obtain rfl := Option.some.inj hm33
                    try dsimp only at hm28
                    obtain rfl := Option.some.inj hm28
                    try dsimp only at hm15
                    obtain rfl := Option.some.inj hm15
                    refine ex_st (fun _ h => st_pk 3 [] (by decide) h) ?_
                    exact x_r1 rfl (rv_t rfl) (Le.refl _) ⟨_, rfl, rfl, rfl, rfl⟩
                  · have hm55 := iff_ hm48 h54
                    refine c_skip ?_
                    obtain rfl := Option.some.inj hm55
                    exact x_sub (K34 _ rfl) ⟨rfl, rfl, rfl, rfl, rfl, trivial⟩ (fun _ h => st_pk 3 [1, 2] (by decide) h)
                refine cutT (al := [(7, 33, [vB false, vW 0, vW 0, vW 0, vW 0, vI 0, vW 0, vI 0, vW 0, vW 0, vW 0, vI 0, vW 0, vI 0, vW 0, vW 0])]) [] [(0, pt b5 0), (1, .agg (api_View.c hawthornlaw16_first).toArray), (2, v0), (3, vI i_18), (4, pt b45 (o45 + i_18.toNat * 1)), (5, vW x45)] (Bk b5 42 (cell_Cell.c c_19) :: Bk b0 25 [vW 2, vI a1.Primary, vW a1.PLife, vI a1.Backup, vW a1.BLife, vW a1.Epoch] :: F) (fun bs50 => ?_) fun T52 => ?_
                · refine stage_st (fun _ h => st_pk 3 [1, 0, 2] (by decide) h) ?_
                  refine stage rfl rfl rfl rfl [0, 0, 0, 0, 12, 28, 63, 0, 255] [0, 1, 2, 3, 4, 5] [6] rfl rfl rfl (qc rfl rfl (s_u (o_mv rfl)) (qc rfl rfl (s_u (o_callq ca7 rfl (hawthornlaw16_first.ok _ rfl))) (qc rfl rfl (s_u (o_mv rfl)) (qc rfl rfl (s_u (o_mv rfl)) (qc rfl rfl (s_u (o_ix (sz := 1) Try.underlying22 (fun _ => by kernel_rfl) rfl rfl hv45 hi45)) (qc rfl rfl (s_u (o_ldR sc23 rfl hR45 (rok 0 he45 (by decide)))) qn)))))) ?_ (fun h => absurd h (by decide))
                  refine ec (eo_c rfl (s_w (o_call ca9 rfl (cell_Cell_Prepare.ok b5 c_19 hawthornlaw16_first x45 r47 hr47))) ?_) en
                  exact stage_st (fun _ h => st_pk 3 [1, 0, 2] (by decide) h) (T53 bs50)
                refine stageF_st (L' := Bk b5 42 (cell_Cell.c c_19) :: Bk b0 25 [vW 2, vI a1.Primary, vW a1.PLife, vI a1.Backup, vW a1.BLife, vW a1.Epoch] :: F) (fun _ _ h => st_pk 2 [1, 0] (by decide) h) ?_
                refine stageF_ext [(0, pt b5 0), (1, .agg (api_View.c hawthornlaw16_first).toArray), (2, v0), (3, vI i_18), (4, pt b45 (o45 + i_18.toNat * 1)), (5, vW x45)] rfl ?_
                refine stageA rfl rfl rfl rfl rfl rfl rfl [0, 0, 0, 0, 12, 28, 63, 0, 255] [0, 1, 2, 3, 4, 5] [6] rfl rfl rfl (tc rfl rfl (fun A => s_u (o_mv rfl)) (tc rfl rfl (fun A => s_u (o_callq ca7 rfl (hawthornlaw16_first.ok _ rfl))) (tc rfl rfl (fun A => s_u (o_mv rfl)) (tc rfl rfl (fun A => s_u (o_mv rfl)) (tc rfl rfl (fun A => s_u (o_ix (sz := 1) Try.underlying22 (fun _ => by kernel_rfl) rfl rfl hv45 hi45)) (tc rfl rfl (fun A => s_u (o_ldR sc23 rfl hR45 (rok 0 he45 (by decide)))) tn)))))) (ac rfl (fun A => s_w (o_al ze33)) an) ?_ T52
                refine et_c (v := .agg (api_Promise.c r47.1).toArray) (L' := Bk b5 42 (cell_Cell.c r47.2) :: Bk b0 25 [vW 2, vI a1.Primary, vW a1.PLife, vI a1.Backup, vW a1.BLife, vW a1.Epoch] :: F) rfl (fun A => s_w (o_call ca9 rfl (cell_Cell_Prepare.ok b5 c_19 hawthornlaw16_first x45 r47 hr47))) ?_
                exact stageA rfl rfl rfl rfl rfl rfl rfl [0, 0, 0, 0, 12, 28, 63, 0, 255] [] [] rfl rfl rfl tn (ac rfl (fun A => s_w (o_al ze33)) an) etn T53
              · have hm44 := iff_ hp32 h43
                refine c_seq ?_
                obtain ⟨x56, hx56, hm57⟩ := bs hm44
                obtain ⟨b56, o56, l56, T56, fr56, c56, hv56, hR56, he56, hi56⟩ := RoS.ne h0 hx56
                obtain ⟨r58, hr58, hm59⟩ := ltx hm57
                refine c_anyF mixed (effs := [6, 8]) (fr := alF [(7, 33, [vB false, vW 0, vW 0, vW 0, vW 0, vI 0, vW 0, vI 0, vW 0, vW 0, vW 0, vI 0, vW 0, vI 0, vW 0, vW 0])]) (V := []) rfl ?_
                refine cutT (al := [(7, 33, [vB false, vW 0, vW 0, vW 0, vW 0, vI 0, vW 0, vI 0, vW 0, vW 0, vW 0, vI 0, vW 0, vI 0, vW 0, vW 0])]) [6] [(6, .agg (api_Promise.c r58.1).toArray), (0, pt b5 0), (1, .agg [vW 2, vI a1.Primary, vW a1.PLife, vI a1.Backup, vW a1.BLife, vW a1.Epoch].toArray), (2, v0), (3, vI i_18), (4, pt b56 (o56 + i_18.toNat * 1)), (5, vW x56)] (Bk b5 42 (cell_Cell.c r58.2) :: Bk b0 25 [vW 2, vI a1.Primary, vW a1.PLife, vI a1.Backup, vW a1.BLife, vW a1.Epoch] :: F) (fun bs61 => ?_) fun T64 => ?_
                · refine stage rfl rfl rfl rfl [0, 0, 0, 0, 12, 28, 63, 0, 255] [] [8] rfl rfl rfl qn ?_ (fun h => absurd h (by decide))
                  refine ec (eo_u rfl (s_u (o_stn ag33 rfl rfl rfl rfl rfl rfl rfl)) (Le.refl _) ?_) en
                  refine stage rfl rfl rfl rfl [0, 0, 0, 0, 12, 28, 63, 0, 255] [] [] rfl rfl rfl qn en ?_
                  intro _
                  refine ex_sub (E' := [(0, v0), (3, pt b0 0), (5, pt b5 0), (7, vW most_17), (8, vI i_18), (10, pt (bs61 7) 0)]) ⟨rfl, rfl, rfl, rfl, rfl, rfl, trivial⟩ ?_
                  refine x_seq ?_
                  refine c_seq ?_
                  refine c_any mixed (effs := []) (V := []) ?_
                  refine stage_ext [(0, pt (bs61 7) 0), (1, vB r58.1.OK), (2, .agg [vW 2, vI a1.Primary, vW a1.PLife, vI a1.Backup, vW a1.BLife, vW a1.Epoch].toArray), (3, vB (cell_Check (⟨2, a1.Primary, a1.PLife, a1.Backup, a1.BLife, a1.Epoch⟩ : api_View))), (4, vB (cell_Check (⟨2, a1.Primary, a1.PLife, a1.Backup, a1.BLife, a1.Epoch⟩ : api_View))), (5, gv (cell_Check (⟨2, a1.Primary, a1.PLife, a1.Backup, a1.BLife, a1.Epoch⟩ : api_View)) v0), (6, gv (cell_Check (⟨2, a1.Primary, a1.PLife, a1.Backup, a1.BLife, a1.Epoch⟩ : api_View)) (vI i_18)), (7, gv (cell_Check (⟨2, a1.Primary, a1.PLife, a1.Backup, a1.BLife, a1.Epoch⟩ : api_View)) (pt b56 (o56 + i_18.toNat * 1))), (8, gv (cell_Check (⟨2, a1.Primary, a1.PLife, a1.Backup, a1.BLife, a1.Epoch⟩ : api_View)) (vW x56)), (9, gv (cell_Check (⟨2, a1.Primary, a1.PLife, a1.Backup, a1.BLife, a1.Epoch⟩ : api_View)) (vW most_17)), (10, gv (cell_Check (⟨2, a1.Primary, a1.PLife, a1.Backup, a1.BLife, a1.Epoch⟩ : api_View)) (vB (decide (most_17 ≤ x56)))), (11, vB ((cell_Check (⟨2, a1.Primary, a1.PLife, a1.Backup, a1.BLife, a1.Epoch⟩ : api_View)) && decide (most_17 ≤ x56))), (12, vB ((cell_Check (⟨2, a1.Primary, a1.PLife, a1.Backup, a1.BLife, a1.Epoch⟩ : api_View)) && decide (most_17 ≤ x56))), (13, gv ((cell_Check (⟨2, a1.Primary, a1.PLife, a1.Backup, a1.BLife, a1.Epoch⟩ : api_View)) && decide (most_17 ≤ x56)) v0), (14, gv ((cell_Check (⟨2, a1.Primary, a1.PLife, a1.Backup, a1.BLife, a1.Epoch⟩ : api_View)) && decide (most_17 ≤ x56)) (vI i_18)), (15, gv ((cell_Check (⟨2, a1.Primary, a1.PLife, a1.Backup, a1.BLife, a1.Epoch⟩ : api_View)) && decide (most_17 ≤ x56)) (pt b56 (o56 + i_18.toNat * 1))), (16, gv ((cell_Check (⟨2, a1.Primary, a1.PLife, a1.Backup, a1.BLife, a1.Epoch⟩ : api_View)) && decide (most_17 ≤ x56)) (vW x56)), (17, gv ((cell_Check (⟨2, a1.Primary, a1.PLife, a1.Backup, a1.BLife, a1.Epoch⟩ : api_View)) && decide (most_17 ≤ x56)) (vB (decide (0 < x56)))), (18, vB (((cell_Check (⟨2, a1.Primary, a1.PLife, a1.Backup, a1.BLife, a1.Epoch⟩ : api_View)) && decide (most_17 ≤ x56)) && decide (0 < x56))), (19, vB (r58.1.OK != (((cell_Check (⟨2, a1.Primary, a1.PLife, a1.Backup, a1.BLife, a1.Epoch⟩ : api_View)) && decide (most_17 ≤ x56)) && decide (0 < x56))))] rfl ?_
                  refine stage rfl rfl rfl rfl [0, 1, 0, 4, 12, 28, 28, 124, 252, 28, 1020, 2044, 4092, 8188, 8188, 32764, 65532, 131068, 262140, 524287] [0, 1, 2, 3, 4, 5, 6, 7, 8, 9, 10, 11, 12, 13, 14, 15, 16, 17, 18, 19] [] rfl rfl rfl (qc rfl rfl (s_u (o_fa fa33_0 rfl)) (qc rfl rfl (s_u (o_ld 0 sc4 rfl rfl rfl)) (qc rfl rfl (s_u (o_ldn 2 [vW 2, vI a1.Primary, vW a1.PLife, vI a1.Backup, vW a1.BLife, vW a1.Epoch] ag25 rfl rfl rfl rfl)) (qc rfl rfl (s_u (o_callq ca11 rfl (cell_Check.ok (⟨2, a1.Primary, a1.PLife, a1.Backup, a1.BLife, a1.Epoch⟩ : api_View) _ rfl))) (qc rfl rfl (s_u (o_mv rfl)) (qc rfl rfl (s_gt rfl rfl fun g => o_mv rfl) (qc rfl rfl (s_gt rfl rfl fun g => o_mv rfl) (qc rfl rfl (s_gt rfl rfl fun g => o_ix (sz := 1) Try.underlying22 (fun _ => by kernel_rfl) (evg rfl g) (evg rfl g) hv56 hi56) (qc rfl rfl (s_gt rfl rfl fun g => o_ldR sc23 (evg rfl g) hR56 (rok 0 he56 (by decide))) (qc rfl rfl (s_gt rfl rfl fun g => o_mv rfl) (qc rfl rfl (s_gt rfl rfl fun g => o_bin (evg rfl g) (evg rfl g) (bW_ge x56 most_17)) (qc rfl rfl (s_u (o_and rfl rfl)) (qc rfl rfl (s_u (o_mv rfl)) (qc rfl rfl (s_gt rfl rfl fun g => o_mv rfl) (qc rfl rfl (s_gt rfl rfl fun g => o_mv rfl) (qc rfl rfl (s_gt rfl rfl fun g => o_ix (sz := 1) Try.underlying22 (fun _ => by kernel_rfl) (evg rfl g) (evg rfl g) hv56 hi56) (qc rfl rfl (s_gt rfl rfl fun g => o_ldR sc23 (evg rfl g) hR56 (rok 0 he56 (by decide))) (qc rfl rfl (s_gt rfl rfl fun g => o_bin (evg rfl g) rfl (bW_gt x56 0)) (qc rfl rfl (s_u (o_and rfl rfl)) (qc rfl rfl (s_u (o_bin rfl rfl (bB_ne Try.underlying4 r58.1.OK (((cell_Check (⟨2, a1.Primary, a1.PLife, a1.Backup, a1.BLife, a1.Epoch⟩ : api_View)) && decide (most_17 ≤ x56)) && decide (0 < x56))))) qn)))))))))))))))))))) en ?_
                  intro _
                  refine ex_sub (E' := [(0, v0), (3, pt b0 0), (5, pt b5 0), (7, vW most_17), (8, vI i_18), (10, pt (bs61 7) 0), (78, vB (r58.1.OK != (((cell_Check (⟨2, a1.Primary, a1.PLife, a1.Backup, a1.BLife, a1.Epoch⟩ : api_View)) && decide (most_17 ≤ x56)) && decide (0 < x56))))]) ⟨rfl, rfl, rfl, rfl, rfl, rfl, rfl, trivial⟩ ?_
                  refine x_seq ?_
                  refine c_if (b := (r58.1.OK != (((cell_Check (⟨2, a1.Primary, a1.PLife, a1.Backup, a1.BLife, a1.Epoch⟩ : api_View)) && decide (most_17 ≤ x56)) && decide (0 < x56)))) rfl (fun h65 => ?_) fun h65 => ?_
                  · have hm66 := ift hm59 h65
                    refine c_seq ?_
                    refine c_reg ?_
                    refine r_u (o_as rfl) ?_
                    refine r_nil ?_
                    refine x_seq ?_
                    refine c_ret ?_
                    obtain rfl := Option.some.inj hm66
                    try dsimp only at hm33
                    obtain rfl := Option.some.inj hm33
                    try dsimp only at hm28
                    obtain rfl := Option.some.inj hm28
                    try dsimp only at hm15
                    obtain rfl := Option.some.inj hm15
                    refine ex_st (fun _ h => st_pk 3 [] (by decide) h) ?_
                    exact x_r1 rfl (rv_t rfl) (Le.refl _) ⟨_, rfl, rfl, rfl, rfl⟩
                  · have hm66 := iff_ hm59 h65
                    refine c_seq ?_
                    refine c_reg ?_
                    refine r_u (o_fa fa33_0 rfl) ?_
                    refine r_u (o_ld 0 sc4 rfl rfl rfl) ?_
                    refine r_u (o_not rfl) ?_
                    refine r_nil ?_
                    refine x_seq ?_
                    refine c_if (b := !r58.1.OK) rfl (fun h67 => ?_) fun h67 => ?_
                    · have hm68 := ift hm66 h67
                      refine c_exit (x_exit (ks' := _) rfl ?_)
                      obtain rfl := Option.some.inj hm68
                      try dsimp only at hm33
                      obtain rfl := Option.some.inj hm33
                      exact x_sub (K29 _ rfl) ⟨rfl, rfl, rfl, rfl, rfl, trivial⟩ (fun _ h => st_pk 3 [1, 2] (by decide) h)
                    · have hm68 := iff_ hm66 h67
                      refine c_skip ?_
                      obtain rfl := Option.some.inj hm68
                      exact x_sub (K34 _ rfl) ⟨rfl, rfl, rfl, rfl, rfl, trivial⟩ (fun _ h => st_pk 3 [1, 2] (by decide) h)
                refine cutT (al := [(7, 33, [vB false, vW 0, vW 0, vW 0, vW 0, vI 0, vW 0, vI 0, vW 0, vW 0, vW 0, vI 0, vW 0, vI 0, vW 0, vW 0])]) [] [(0, pt b5 0), (1, .agg [vW 2, vI a1.Primary, vW a1.PLife, vI a1.Backup, vW a1.BLife, vW a1.Epoch].toArray), (2, v0), (3, vI i_18), (4, pt b56 (o56 + i_18.toNat * 1)), (5, vW x56)] (Bk b5 42 (cell_Cell.c c_19) :: Bk b0 25 [vW 2, vI a1.Primary, vW a1.PLife, vI a1.Backup, vW a1.BLife, vW a1.Epoch] :: F) (fun bs61 => ?_) fun T63 => ?_
                · refine stage_st (fun _ h => st_pk 3 [1, 0, 2] (by decide) h) ?_
                  refine stage rfl rfl rfl rfl [0, 0, 0, 0, 12, 28, 63, 0, 255] [0, 1, 2, 3, 4, 5] [6] rfl rfl rfl (qc rfl rfl (s_u (o_mv rfl)) (qc rfl rfl (s_u (o_ldn 2 [vW 2, vI a1.Primary, vW a1.PLife, vI a1.Backup, vW a1.BLife, vW a1.Epoch] ag25 rfl rfl rfl rfl)) (qc rfl rfl (s_u (o_mv rfl)) (qc rfl rfl (s_u (o_mv rfl)) (qc rfl rfl (s_u (o_ix (sz := 1) Try.underlying22 (fun _ => by kernel_rfl) rfl rfl hv56 hi56)) (qc rfl rfl (s_u (o_ldR sc23 rfl hR56 (rok 0 he56 (by decide)))) qn)))))) ?_ (fun h => absurd h (by decide))
                  refine ec (eo_c rfl (s_w (o_call ca10 rfl (cell_Cell_Accept.ok b5 c_19 (⟨2, a1.Primary, a1.PLife, a1.Backup, a1.BLife, a1.Epoch⟩ : api_View) x56 r58 hr58))) ?_) en
                  exact stage_st (fun _ h => st_pk 3 [1, 0, 2] (by decide) h) (T64 bs61)
                refine stageF_st (L' := Bk b5 42 (cell_Cell.c c_19) :: Bk b0 25 [vW 2, vI a1.Primary, vW a1.PLife, vI a1.Backup, vW a1.BLife, vW a1.Epoch] :: F) (fun _ _ h => st_pk 2 [1, 0] (by decide) h) ?_
                refine stageF_ext [(0, pt b5 0), (1, .agg [vW 2, vI a1.Primary, vW a1.PLife, vI a1.Backup, vW a1.BLife, vW a1.Epoch].toArray), (2, v0), (3, vI i_18), (4, pt b56 (o56 + i_18.toNat * 1)), (5, vW x56)] rfl ?_
                refine stageA rfl rfl rfl rfl rfl rfl rfl [0, 0, 0, 0, 12, 28, 63, 0, 255] [0, 1, 2, 3, 4, 5] [6] rfl rfl rfl (tc rfl rfl (fun A => s_u (o_mv rfl)) (tc rfl rfl (fun A => s_u (o_ldn 1 [vW 2, vI a1.Primary, vW a1.PLife, vI a1.Backup, vW a1.BLife, vW a1.Epoch] ag25 rfl rfl rfl rfl)) (tc rfl rfl (fun A => s_u (o_mv rfl)) (tc rfl rfl (fun A => s_u (o_mv rfl)) (tc rfl rfl (fun A => s_u (o_ix (sz := 1) Try.underlying22 (fun _ => by kernel_rfl) rfl rfl hv56 hi56)) (tc rfl rfl (fun A => s_u (o_ldR sc23 rfl hR56 (rok 0 he56 (by decide)))) tn)))))) (ac rfl (fun A => s_w (o_al ze33)) an) ?_ T63
                refine et_c (v := .agg (api_Promise.c r58.1).toArray) (L' := Bk b5 42 (cell_Cell.c r58.2) :: Bk b0 25 [vW 2, vI a1.Primary, vW a1.PLife, vI a1.Backup, vW a1.BLife, vW a1.Epoch] :: F) rfl (fun A => s_w (o_call ca10 rfl (cell_Cell_Accept.ok b5 c_19 (⟨2, a1.Primary, a1.PLife, a1.Backup, a1.BLife, a1.Epoch⟩ : api_View) x56 r58 hr58))) ?_
                exact stageA rfl rfl rfl rfl rfl rfl rfl [0, 0, 0, 0, 12, 28, 63, 0, 255] [] [] rfl rfl rfl tn (ac rfl (fun A => s_w (o_al ze33)) an) etn T64
        · have hm24 := iff_ hm21 h23
          refine c_exit (x_exit (ks' := _) rfl ?_)
          obtain rfl := Option.some.inj hm24
          exact x_sub (K16 _ rfl) trivial (fun _ h => st_pk 2 [0, 1] (by decide) h)

def cell_Cell_Chosen (a0 : cell_Cell) : api_View :=
  a0.chosen
theorem cell_Cell_Chosen.ok {G R F} (b0_ : Nat) (a0 : cell_Cell) (r : api_View) (hm : cell_Cell_Chosen a0 = r) : CO Try.prog 12 [pt b0_ 0] G R (Bk b0_ 42 (cell_Cell.c a0) :: F)
    (Ret fun u R' L' => u = .agg (api_View.c r).toArray ∧ R' = R ∧ L' = Bk b0_ 42 (cell_Cell.c a0) :: F) := by
  unfold cell_Cell_Chosen at hm
  refine co_ofN (N := 10) Try.func12 rfl rfl ?_
  refine c_seq ?_
  refine c_reg ?_
  refine r_new (o_al ze25) fun b0 => ?_
  refine r_nil ?_
  refine x_seq ?_
  refine c_seq ?_
  refine c_seq ?_
  refine c_reg ?_
  refine r_u (o_mv rfl) ?_
  refine r_u (o_bin rfl rfl (bP_eqp Try.underlying26)) ?_
  refine r_nil ?_
  refine x_seq ?_
  refine c_ff rfl ?_
  refine c_skip ?_
  refine x_seq ?_
  refine c_seq ?_
  refine c_reg ?_
  refine r_u (o_mv rfl) ?_
  refine r_u (o_nc rfl) ?_
  refine r_u (o_fa fa42_0 rfl) ?_
  refine r_u (o_ldn 1 (api_View.c a0.chosen) ag25 rfl rfl rfl rfl) ?_
  refine r_u0 (o_stn ag25 rfl rfl rfl rfl rfl rfl rfl) ?_
  refine r_nil ?_
  refine x_seq ?_
  refine c_ret ?_
  subst hm
  exact x_d1 rfl (rv_n 0 (api_View.c a0.chosen) ag25 rfl rfl rfl rfl) (fun _ h => st_pk 2 [1] (by decide) h) (Le.refl _) ⟨_, rfl, rfl, rfl, rfl⟩

def hawthornlaw16_CellLearns_l1 (a0 : List api_View) : Nat → UInt64 → Int → cell_Cell → Option (cell_Cell ⊕ Bool)
  | 0, _, _, _ => none
  | k19 + 1, ballot_16, i_17, c_18 => if (decide (i_17 < (a0.length : Int)) && decide (i_17 < 30)) then lt (cell_Cell_Prepare c_18 (cell_Cell_Chosen c_18) (ballot_16 + 1)) fun r25 => if !r25.1.OK then some (Sum.inr false) else (gi a0 i_17).bind fun x29 => lt (cell_Cell_Learn r25.2 x29) fun r31 => Option.bind (if (r31.1 != ((hawthornref16_Check x29) && decide (((cell_Cell_Chosen c_18).V) < x29.V))) then some true else Option.bind (if r31.1 then Option.bind (if decide ((cell_Cell_Chosen r31.2) = x29) then some false else some true) fun p59 => some p59 else some (!(decide ((cell_Cell_Chosen r31.2) = (cell_Cell_Chosen c_18))))) fun p53 => some p53) fun p33 => if p33 then some (Sum.inr false) else Option.bind (if r31.1 then lt (cell_Cell_Prepare r31.2 x29 1) fun r46 => if (((!r46.1.OK || (r46.1.Ballot != 0)) || (r46.1.Most != 1)) || !(decide (r46.1.Value = (⟨0, 0, 0, 0, 0, 0⟩ : api_View)))) then some (Sum.inr (Sum.inr false)) else some (Sum.inl (1, r46.2)) else some (Sum.inl (ballot_16 + 1, r31.2))) fun (p39 : (UInt64 × cell_Cell) ⊕ (cell_Cell ⊕ Bool)) => match p39 with | Sum.inl q40 => hawthornlaw16_CellLearns_l1 a0 k19 q40.1 (i64 (i_17 + 1)) q40.2 | Sum.inr r => some r else some (Sum.inl c_18)
def hawthornlaw16_CellLearns (a0 : List api_View) : Option Bool :=
  lt (cell_New hawthornlaw16_first) fun r0 => om r0.1 (none) fun x3 => (hawthornlaw16_awake).bind fun r7 => if (!r7 || (r0.2 != 0)) then some false else Option.bind (hawthornlaw16_CellLearns_l1 a0 (((a0.length : Int) - 0).toNat + 1) 0 0 x3) fun (p11 : cell_Cell ⊕ Bool) => match p11 with | Sum.inl q12 => some true | Sum.inr r => some r
theorem hawthornlaw16_CellLearns.ok {G R F} (v0 : Value) (a0 : List api_View) (h0 : RoS R v0 6 api_View.c a0) (r : Bool) (hm : hawthornlaw16_CellLearns a0 = some r) : CO Try.prog 4 [v0] G R (F)
    (Ret fun u R' L' => u = vB r ∧ R' = R ∧ L' = F) := by
  unfold hawthornlaw16_CellLearns at hm
  refine co_ofN (N := 112) Try.func4 rfl rfl ?_
  refine c_seq ?_
  refine c_reg ?_
  refine r_u (o_as rfl) ?_
  refine r_nil ?_
  refine x_seq ?_
  refine c_seq ?_
  refine c_reg ?_
  refine r_u (o_callq ca7 rfl (hawthornlaw16_first.ok _ rfl)) ?_
  obtain ⟨r0, hr0, hm2⟩ := ltx hm
  refine r_sw (s_w (o_call ca6 rfl (cell_New.ok hawthornlaw16_first r0 hr0))) ?_
  rintro _ _ _ _ ⟨pv1, rfl, rfl, rfl⟩
  refine r_u (o_mv rfl) ?_
  refine r_u (o_ext rfl rfl) ?_
  refine r_u (o_ext rfl rfl) ?_
  refine r_u (o_as rfl) ?_
  refine r_u (o_as rfl) ?_
  refine r_nil ?_
  refine x_seq ?_
  refine c_seq ?_
  refine c_seq ?_
  refine cd_opt (fun ho5 => ?_) (fun x3 b4 ho5 => ?_)
  · rintro rfl
    have hm6 := om_n hm2 ho5
    cases hm6
  · rintro rfl
    have hm6 := om_s hm2 ho5
    refine c_reg ?_
    obtain ⟨r7, hr7, hm8⟩ := bs hm6
    refine r_u (o_callq ca8 rfl (hawthornlaw16_awake.ok r7 hr7)) ?_
    refine r_u (o_not rfl) ?_
    refine r_u (o_mv rfl) ?_
    refine r_s (s_gf rfl rfl fun g => o_mv rfl) ?_
    refine r_s (s_gf rfl rfl fun g => o_bin (evg rfl g) rfl (bI_ne r0.2 0)) ?_
    refine r_u (o_or rfl rfl) ?_
    refine r_nil ?_
    refine x_seq ?_
    refine c_if (b := (!r7 || (r0.2 != 0))) rfl (fun h9 => ?_) fun h9 => ?_
    · have hm10 := ift hm8 h9
      refine c_seq ?_
      refine c_reg ?_
      refine r_u (o_as rfl) ?_
      refine r_nil ?_
      refine x_seq ?_
      refine c_ret ?_
      obtain rfl := Option.some.inj hm10
      refine ex_st (fun _ h => st_pk 1 [] (by decide) h) ?_
      exact x_r1 rfl (rv_t rfl) (Le.refl _) ⟨_, rfl, rfl, rfl, rfl⟩
    · have hm10 := iff_ hm8 h9
      refine c_skip ?_
      refine x_seq ?_
      refine c_seq ?_
      refine c_reg ?_
      refine r_u (o_as rfl) ?_
      refine r_nil ?_
      refine x_seq ?_
      refine c_seq ?_
      refine c_seq ?_
      refine c_reg ?_
      refine r_u (o_as rfl) ?_
      refine r_nil ?_
      refine x_seq ?_
      obtain ⟨p11, hp13, hm14⟩ := bs hm10
      refine cd_joinS (p := p11) (Ef := fun q12 => []) (Lf := fun q12 => Bk b4 42 (cell_Cell.c q12) :: F) (fun q12 hq => ?_) fun K15 => ?_
      · subst hq
        try dsimp only at hm14
        refine x_seq ?_
        refine c_seq ?_
        refine c_reg ?_
        refine r_u (o_as rfl) ?_
        refine r_nil ?_
        refine x_seq ?_
        refine c_ret ?_
        obtain rfl := Option.some.inj hm14
        refine ex_st (fun _ h => st_pk 1 [] (by decide) h) ?_
        exact x_r1 rfl (rv_t rfl) (Le.refl _) ⟨_, rfl, rfl, rfl, rfl⟩
      · refine c_blk ?_
        refine cd_loop (M := fun k19 (s : UInt64 × Int × cell_Cell) => hawthornlaw16_CellLearns_l1 a0 k19 s.1 s.2.1 s.2.2 = some p11) (Ef := fun (s : UInt64 × Int × cell_Cell) => [(0, v0), (3, pt b4 0), (5, vW s.1), (6, vI s.2.1)]) (Lf := fun (s : UInt64 × Int × cell_Cell) => Bk b4 42 (cell_Cell.c s.2.2) :: F) (((a0.length : Int) - 0).toNat + 1) (0, 0, x3) hp13 ⟨rfl, rfl, rfl, rfl, trivial⟩ (fun _ h => h) (fun _ h => by cases h) fun k19 s hM21 => ?_
        obtain ⟨ballot_16, i_17, c_18⟩ := s
        have hm20 : hawthornlaw16_CellLearns_l1 a0 (k19 + 1) ballot_16 i_17 c_18 = some p11 := hM21
        rw [hawthornlaw16_CellLearns_l1] at hm20
        refine c_seq ?_
        refine c_seq ?_
        refine c_reg ?_
        refine r_u (o_mv rfl) ?_
        refine r_u (o_mv rfl) ?_
        refine r_u (o_lenR Try.underlying37 rfl h0) ?_
        refine r_u (o_bin rfl rfl (bI_lt i_17 (a0.length : Int))) ?_
        refine r_u (o_mv rfl) ?_
        refine r_s (s_gt rfl rfl fun g => o_mv rfl) ?_
        refine r_s (s_gt rfl rfl fun g => o_bin (evg rfl g) rfl (bI_lt i_17 30)) ?_
        refine r_u (o_and rfl rfl) ?_
        refine r_nil ?_
        refine x_seq ?_
        refine c_if (b := (decide (i_17 < (a0.length : Int)) && decide (i_17 < 30))) rfl (fun h22 => ?_) fun h22 => ?_
        · have hm23 := ift hm20 h22
          refine c_skip ?_
          refine x_seq ?_
          refine c_seq ?_
          refine c_blk ?_
          refine c_seq ?_
          refine c_reg ?_
          refine r_u (o_mv rfl) ?_
          refine r_c (s_w (o_call ca12 rfl (cell_Cell_Chosen.ok b4 c_18 _ rfl))) ?_
          refine r_new (o_al ze25) fun b24 => ?_
          refine r_u0 (o_stn ag25 rfl rfl rfl rfl rfl rfl rfl) ?_
          refine r_nil ?_
          refine x_seq ?_
          refine c_seq ?_
          refine c_reg ?_
          refine r_u (o_mv rfl) ?_
          refine r_u (o_bin rfl rfl (bW_add ballot_16 1)) ?_
          refine r_u (o_as rfl) ?_
          refine r_nil ?_
          refine x_seq ?_
          refine c_seq ?_
          refine c_seq ?_
          refine c_reg ?_
          refine r_u (o_mv rfl) ?_
          refine r_u (o_ldn 0 (api_View.c (cell_Cell_Chosen c_18)) ag25 rfl rfl rfl rfl) ?_
          refine r_u (o_mv rfl) ?_
          obtain ⟨r25, hr25, hm26⟩ := ltx hm23
          refine rl_st (fun _ h => st_pk 2 [1, 0] (by decide) h) ?_
          refine r_c (s_w (o_call ca9 rfl (cell_Cell_Prepare.ok b4 c_18 (cell_Cell_Chosen c_18) (ballot_16 + 1) r25 hr25))) ?_
          refine r_u (o_fd (v := vB r25.1.OK) rfl (fun _ => by kernel_rfl)) ?_
          refine r_u (o_not rfl) ?_
          refine r_nil ?_
          refine x_seq ?_
          refine c_if (b := !r25.1.OK) rfl (fun h27 => ?_) fun h27 => ?_
          · have hm28 := ift hm26 h27
            refine c_seq ?_
            refine c_reg ?_
            refine r_u (o_as rfl) ?_
            refine r_nil ?_
            refine x_seq ?_
            refine c_ret ?_
            obtain rfl := Option.some.inj hm28
            try dsimp only at hm14
            obtain rfl := Option.some.inj hm14
            refine ex_st (fun _ h => st_pk 2 [] (by decide) h) ?_
            exact x_r1 rfl (rv_t rfl) (Le.refl _) ⟨_, rfl, rfl, rfl, rfl⟩
          · have hm28 := iff_ hm26 h27
            refine c_skip ?_
            refine x_seq ?_
            refine c_seq ?_
            refine c_reg ?_
            refine r_u (o_mv rfl) ?_
            refine r_u (o_mv rfl) ?_
            refine r_u (o_mv rfl) ?_
            obtain ⟨x29, hx29, hm30⟩ := bs hm28
            obtain ⟨b29, o29, l29, T29, fr29, c29, hv29, hR29, he29, hi29⟩ := RoS.ne h0 hx29
            refine r_u (o_ix (sz := 6) Try.underlying37 (fun _ => by kernel_rfl) rfl rfl hv29 hi29) ?_
            refine r_u (o_ldnR (api_View.c x29) ag25 rfl hR29 he29 rfl) ?_
            obtain ⟨r31, hr31, hm32⟩ := ltx hm30
            refine r_c (s_w (o_call ca13 rfl (cell_Cell_Learn.ok b4 r25.2 x29 r31 hr31))) ?_
            refine r_u (o_as rfl) ?_
            refine r_nil ?_
            refine x_seq ?_
            refine c_seq ?_
            refine c_seq ?_
            obtain ⟨p33, hp34, hm35⟩ := bs hm32
            refine cd_join (E' := [(0, v0), (3, pt b4 0), (5, vW (ballot_16 + 1)), (6, vI i_17), (8, vB r31.1), (85, vB p33)]) (L' := Bk b4 42 (cell_Cell.c r31.2) :: Bk b24 25 (api_View.c (cell_Cell_Chosen c_18)) :: F) ?_ fun K36 => ?_
            · refine x_seq ?_
              refine c_if (b := p33) rfl (fun h37 => ?_) fun h37 => ?_
              · have hm38 := ift hm35 h37
                refine c_seq ?_
                refine c_reg ?_
                refine r_u (o_as rfl) ?_
                refine r_nil ?_
                refine x_seq ?_
                refine c_ret ?_
                obtain rfl := Option.some.inj hm38
                try dsimp only at hm14
                obtain rfl := Option.some.inj hm14
                refine ex_st (fun _ h => st_pk 2 [] (by decide) h) ?_
                exact x_r1 rfl (rv_t rfl) (Le.refl _) ⟨_, rfl, rfl, rfl, rfl⟩
              · have hm38 := iff_ hm35 h37
                refine c_skip ?_
                refine x_seq ?_
                refine c_seq ?_
                refine c_reg ?_
                refine r_u (o_mv rfl) ?_
                refine r_nil ?_
                refine x_seq ?_
                obtain ⟨p39, hp41, hm42⟩ := bs hm38
                refine cd_joinS (p := p39) (Ef := fun q40 => [(0, v0), (3, pt b4 0), (6, vI i_17), (5, vW q40.1)]) (Lf := fun q40 => Bk b4 42 (cell_Cell.c q40.2) :: Bk b24 25 (api_View.c (cell_Cell_Chosen c_18)) :: F) (fun q40 hq => ?_) fun K43 => ?_
                · subst hq
                  try dsimp only at hm42
                  refine x_blk ?_
                  refine x_seq ?_
                  refine c_reg ?_
                  refine r_u (o_mv rfl) ?_
                  refine r_u (o_bin rfl rfl (bI_add i_17 1)) ?_
                  refine r_u (o_as rfl) ?_
                  refine r_nil ?_
                  exact x_lp (q40.1, i64 (i_17 + 1), q40.2) hm42 ⟨rfl, rfl, rfl, rfl, trivial⟩ (fun _ h => st_pk 2 [0] (by decide) h)
                · refine c_if (b := r31.1) rfl (fun h44 => ?_) fun h44 => ?_
                  · have hm45 := ift hp41 h44
                    refine c_seq ?_
                    refine c_reg ?_
                    refine r_u (o_mv rfl) ?_
                    refine r_u (o_mv rfl) ?_
                    refine r_u (o_mv rfl) ?_
                    refine r_u (o_ix (sz := 6) Try.underlying37 (fun _ => by kernel_rfl) rfl rfl hv29 hi29) ?_
                    refine r_u (o_ldnR (api_View.c x29) ag25 rfl hR29 he29 rfl) ?_
                    obtain ⟨r46, hr46, hm47⟩ := ltx hm45
                    refine r_c (s_w (o_call ca9 rfl (cell_Cell_Prepare.ok b4 r31.2 x29 1 r46 hr46))) ?_
                    refine r_new (o_al ze33) fun b48 => ?_
                    refine r_u0 (o_stn ag33 rfl rfl rfl rfl rfl rfl rfl) ?_
                    refine r_nil ?_
                    refine x_seq ?_
                    refine c_seq ?_
                    refine c_seq ?_
                    refine c_reg ?_
                    refine r_u (o_fa fa33_0 rfl) ?_
                    refine r_u (o_ld 0 sc4 rfl rfl rfl) ?_
                    refine r_u (o_not rfl) ?_
                    refine r_u (o_mv rfl) ?_
                    refine r_s (s_gf rfl rfl fun g => o_fa fa33_3 rfl) ?_
                    refine r_s (s_gf rfl rfl fun g => o_ld 0 sc23 (evg rfl g) rfl rfl) ?_
                    refine r_s (s_gf rfl rfl fun g => o_bin (evg rfl g) rfl (bW_ne r46.1.Ballot 0)) ?_
                    refine r_u (o_or rfl rfl) ?_
                    refine r_u (o_mv rfl) ?_
                    refine r_s (s_gf rfl rfl fun g => o_fa fa33_2 rfl) ?_
                    refine r_s (s_gf rfl rfl fun g => o_ld 0 sc23 (evg rfl g) rfl rfl) ?_
                    refine r_s (s_gf rfl rfl fun g => o_bin (evg rfl g) rfl (bW_ne r46.1.Most 1)) ?_
                    refine r_u (o_or rfl rfl) ?_
                    refine r_u (o_mv rfl) ?_
                    refine r_s (s_gf rfl rfl fun g => o_fa fa33_4 rfl) ?_
                    refine r_s (s_gf rfl rfl fun g => o_ldn 0 (api_View.c r46.1.Value) ag25 (evg rfl g) rfl rfl rfl) ?_
                    refine r_s (s_gf rfl rfl fun g => o_bld [vW 0, vI 0, vW 0, vI 0, vW 0, vW 0] rfl (fun _ => by kernel_rfl)) ?_
                    refine r_s (s_gf rfl rfl fun g => o_bin (evg rfl g) (evg rfl g) (api_View.bne_25 r46.1.Value (⟨0, 0, 0, 0, 0, 0⟩ : api_View))) ?_
                    refine r_u (o_or rfl rfl) ?_
                    refine r_nil ?_
                    refine x_seq ?_
                    refine c_if (b := (((!r46.1.OK || (r46.1.Ballot != 0)) || (r46.1.Most != 1)) || !(decide (r46.1.Value = (⟨0, 0, 0, 0, 0, 0⟩ : api_View))))) rfl (fun h49 => ?_) fun h49 => ?_
                    · have hm50 := ift hm47 h49
                      refine c_seq ?_
                      refine c_reg ?_
                      refine r_u (o_as rfl) ?_
                      refine r_nil ?_
                      refine x_seq ?_
                      refine c_ret ?_
                      obtain rfl := Option.some.inj hm50
                      try dsimp only at hm42
                      obtain rfl := Option.some.inj hm42
                      try dsimp only at hm14
                      obtain rfl := Option.some.inj hm14
                      refine ex_st (fun _ h => st_pk 3 [] (by decide) h) ?_
                      exact x_r1 rfl (rv_t rfl) (Le.refl _) ⟨_, rfl, rfl, rfl, rfl⟩
                    · have hm50 := iff_ hm47 h49
                      refine c_skip ?_
                      refine x_seq ?_
                      refine c_reg ?_
                      refine r_u (o_as rfl) ?_
                      refine r_nil ?_
                      obtain rfl := Option.some.inj hm50
                      exact x_sub (K43 _ rfl) ⟨rfl, rfl, rfl, rfl, trivial⟩ (fun _ h => st_pk 3 [1, 2] (by decide) h)
                  · have hm45 := iff_ hp41 h44
                    refine c_skip ?_
                    obtain rfl := Option.some.inj hm45
                    exact x_sub (K43 _ rfl) ⟨rfl, rfl, rfl, rfl, trivial⟩ (fun _ h => st_pk 2 [0, 1] (by decide) h)
            · refine cd_by (r31.1 != ((hawthornref16_Check x29) && decide (((cell_Cell_Chosen c_18).V) < x29.V))) (fun h51 => ?_) fun h51 => ?_
              · have hm52 := ift hp34 h51
                refine c_any mixed (effs := []) (V := []) ?_
                refine stage_ext [(0, vB r31.1), (1, v0), (2, vI i_17), (3, pt b29 (o29 + i_17.toNat * 6)), (4, .agg (api_View.c x29).toArray), (5, vB (hawthornref16_Check x29)), (6, vB (hawthornref16_Check x29)), (7, gv (hawthornref16_Check x29) v0), (8, gv (hawthornref16_Check x29) (vI i_17)), (9, gv (hawthornref16_Check x29) (pt b29 (o29 + i_17.toNat * 6))), (10, gv (hawthornref16_Check x29) (pt b29 (o29 + i_17.toNat * 6))), (11, gv (hawthornref16_Check x29) (vW x29.V)), (12, gv (hawthornref16_Check x29) (pt b24 0)), (13, gv (hawthornref16_Check x29) (vW ((cell_Cell_Chosen c_18).V))), (14, gv (hawthornref16_Check x29) (vB (decide (((cell_Cell_Chosen c_18).V) < x29.V)))), (15, vB ((hawthornref16_Check x29) && decide (((cell_Cell_Chosen c_18).V) < x29.V))), (16, vB (r31.1 != ((hawthornref16_Check x29) && decide (((cell_Cell_Chosen c_18).V) < x29.V)))), (17, vB (r31.1 != ((hawthornref16_Check x29) && decide (((cell_Cell_Chosen c_18).V) < x29.V)))), (18, undef), (19, undef), (20, undef), (21, undef), (22, undef), (23, undef), (24, undef), (25, undef), (26, undef), (27, undef), (28, vB true), (29, vB true), (30, undef), (31, undef), (32, undef), (33, undef), (34, undef), (35, undef), (36, undef), (37, undef), (38, vB true)] rfl ?_
                refine stage rfl rfl rfl rfl [0, 0, 0, 6, 14, 30, 62, 126, 126, 510, 1022, 2046, 126, 4222, 16382, 32766, 65535, 131071, 262143, 524287, 1048575, 2097151, 1048575, 1048575, 13631487, 30408703, 67108863, 134217727, 268435455, 536870911, 1073741823, 2147483647, 4294967295, 8589934591, 17179869183, 8589934591, 68719476735, 137438953471, 274877906943] [0, 1, 2, 3, 4, 5, 6, 7, 8, 9, 10, 11, 12, 13, 14, 15, 16, 17, 18, 19, 20, 21, 22, 23, 24, 25, 26, 27, 28, 29, 30, 31, 32, 33, 34, 35, 36, 37, 38] [] rfl rfl rfl (qc rfl rfl (s_u (o_mv rfl)) (qc rfl rfl (s_u (o_mv rfl)) (qc rfl rfl (s_u (o_mv rfl)) (qc rfl rfl (s_u (o_ix (sz := 6) Try.underlying37 (fun _ => by kernel_rfl) rfl rfl hv29 hi29)) (qc rfl rfl (s_u (o_ldnR (api_View.c x29) ag25 rfl hR29 he29 rfl)) (qc rfl rfl (s_u (o_callq ca14 rfl (hawthornref16_Check.ok x29 _ rfl))) (qc rfl rfl (s_u (o_mv rfl)) (qc rfl rfl (s_gt rfl rfl fun g => o_mv rfl) (qc rfl rfl (s_gt rfl rfl fun g => o_mv rfl) (qc rfl rfl (s_gt rfl rfl fun g => o_ix (sz := 6) Try.underlying37 (fun _ => by kernel_rfl) (evg rfl g) (evg rfl g) hv29 hi29) (qc rfl rfl (s_gt rfl rfl fun g => o_fa fa25_0 (evg rfl g)) (qc rfl rfl (s_gt rfl rfl fun g => o_ldR sc23 (evg rfl g) hR29 (rok 0 he29 (by decide))) (qc rfl rfl (s_gt rfl rfl fun g => o_fa fa25_0 rfl) (qc rfl rfl (s_gt rfl rfl fun g => o_ld 1 sc23 (evg rfl g) rfl rfl) (qc rfl rfl (s_gt rfl rfl fun g => o_bin (evg rfl g) (evg rfl g) (bW_gt x29.V ((cell_Cell_Chosen c_18).V))) (qc rfl rfl (s_u (o_and rfl rfl)) (qc rfl rfl (s_u (o_bin rfl rfl (bB_ne Try.underlying4 r31.1 ((hawthornref16_Check x29) && decide (((cell_Cell_Chosen c_18).V) < x29.V))))) (qc rfl rfl (s_u (o_mv rfl)) (qc rfl rfl (s_n rfl rfl h51) (qc rfl rfl (s_n rfl rfl h51) (qc rfl rfl (s_nu rfl rfl) (qc rfl rfl (s_nu rfl rfl) (qc rfl rfl (s_nu rfl rfl) (qc rfl rfl (s_nu rfl rfl) (qc rfl rfl (s_nu rfl rfl) (qc rfl rfl (s_nu rfl rfl) (qc rfl rfl (s_nu rfl rfl) (qc rfl rfl (s_n rfl rfl h51) (qc rfl rfl (s_u (o_pt rfl h51 rfl)) (qc rfl rfl (s_u (o_mv rfl)) (qc rfl rfl (s_n rfl rfl rfl) (qc rfl rfl (s_n rfl rfl rfl) (qc rfl rfl (s_n rfl rfl rfl) (qc rfl rfl (s_nu rfl rfl) (qc rfl rfl (s_nu rfl rfl) (qc rfl rfl (s_nu rfl rfl) (qc rfl rfl (s_nu rfl rfl) (qc rfl rfl (s_n rfl rfl rfl) (qc rfl rfl (s_u (o_pt rfl rfl rfl)) qn))))))))))))))))))))))))))))))))))))))) en ?_
                intro _
                refine ex_sub (E' := [(0, v0), (3, pt b4 0), (5, vW (ballot_16 + 1)), (6, vI i_17), (8, vB r31.1), (85, vB true)]) ⟨rfl, rfl, rfl, rfl, rfl, rfl, trivial⟩ ?_
                obtain rfl := Option.some.inj hm52
                exact x_sub (K36) ⟨rfl, rfl, rfl, rfl, rfl, rfl, trivial⟩ (fun _ h => st_pk 2 [0, 1] (by decide) h)
              · have hm52 := iff_ hp34 h51
                obtain ⟨p53, hp54, hm55⟩ := bs hm52
                refine cd_join (E' := [(0, v0), (3, pt b4 0), (5, vW (ballot_16 + 1)), (6, vI i_17), (8, vB r31.1), (85, vB p53)]) (L' := Bk b4 42 (cell_Cell.c r31.2) :: Bk b24 25 (api_View.c (cell_Cell_Chosen c_18)) :: F) ?_ fun K56 => ?_
                · obtain rfl := Option.some.inj hm55
                  exact x_sub (K36) ⟨rfl, rfl, rfl, rfl, rfl, rfl, trivial⟩ (fun _ h => st_pk 2 [0, 1] (by decide) h)
                · refine cd_by r31.1 (fun h57 => ?_) fun h57 => ?_
                  · have hm58 := ift hp54 h57
                    obtain ⟨p59, hp60, hm61⟩ := bs hm58
                    refine cd_join (E' := [(0, v0), (3, pt b4 0), (5, vW (ballot_16 + 1)), (6, vI i_17), (8, vB r31.1), (85, vB p59)]) (L' := Bk b4 42 (cell_Cell.c r31.2) :: Bk b24 25 (api_View.c (cell_Cell_Chosen c_18)) :: F) ?_ fun K62 => ?_
                    · obtain rfl := Option.some.inj hm61
                      exact x_sub (K56) ⟨rfl, rfl, rfl, rfl, rfl, rfl, trivial⟩ (fun _ h => st_pk 2 [0, 1] (by decide) h)
                    · refine cd_by (decide ((cell_Cell_Chosen r31.2) = x29)) (fun h63 => ?_) fun h63 => ?_
                      · have hm64 := ift hp60 h63
                        refine c_any mixed (effs := [21]) (V := []) ?_
                        refine stage_ext [(0, vB r31.1), (1, v0), (2, vI i_17), (3, pt b29 (o29 + i_17.toNat * 6)), (4, .agg (api_View.c x29).toArray), (5, vB (hawthornref16_Check x29)), (6, vB (hawthornref16_Check x29)), (7, gv (hawthornref16_Check x29) v0), (8, gv (hawthornref16_Check x29) (vI i_17)), (9, gv (hawthornref16_Check x29) (pt b29 (o29 + i_17.toNat * 6))), (10, gv (hawthornref16_Check x29) (pt b29 (o29 + i_17.toNat * 6))), (11, gv (hawthornref16_Check x29) (vW x29.V)), (12, gv (hawthornref16_Check x29) (pt b24 0)), (13, gv (hawthornref16_Check x29) (vW ((cell_Cell_Chosen c_18).V))), (14, gv (hawthornref16_Check x29) (vB (decide (((cell_Cell_Chosen c_18).V) < x29.V)))), (15, vB ((hawthornref16_Check x29) && decide (((cell_Cell_Chosen c_18).V) < x29.V))), (16, vB (r31.1 != ((hawthornref16_Check x29) && decide (((cell_Cell_Chosen c_18).V) < x29.V)))), (17, vB (r31.1 != ((hawthornref16_Check x29) && decide (((cell_Cell_Chosen c_18).V) < x29.V)))), (18, vB r31.1), (19, vB r31.1), (20, pt b4 0), (22, v0), (23, vI i_17), (24, pt b29 (o29 + i_17.toNat * 6)), (25, .agg (api_View.c x29).toArray)] rfl ?_
                        refine stage rfl rfl rfl rfl [0, 0, 0, 6, 14, 30, 62, 126, 126, 510, 1022, 2046, 126, 4222, 16382, 32766, 65535, 131071, 262143, 524287, 1048575, 2097151, 1048575, 1048575, 13631487, 30408703, 67108863, 134217727, 268435455, 536870911, 1073741823, 2147483647, 4294967295, 8589934591, 17179869183, 8589934591, 68719476735, 137438953471, 274877906943] [0, 1, 2, 3, 4, 5, 6, 7, 8, 9, 10, 11, 12, 13, 14, 15, 16, 17, 18, 19, 20, 22, 23, 24, 25] [21] rfl rfl rfl (qc rfl rfl (s_u (o_mv rfl)) (qc rfl rfl (s_u (o_mv rfl)) (qc rfl rfl (s_u (o_mv rfl)) (qc rfl rfl (s_u (o_ix (sz := 6) Try.underlying37 (fun _ => by kernel_rfl) rfl rfl hv29 hi29)) (qc rfl rfl (s_u (o_ldnR (api_View.c x29) ag25 rfl hR29 he29 rfl)) (qc rfl rfl (s_u (o_callq ca14 rfl (hawthornref16_Check.ok x29 _ rfl))) (qc rfl rfl (s_u (o_mv rfl)) (qc rfl rfl (s_gt rfl rfl fun g => o_mv rfl) (qc rfl rfl (s_gt rfl rfl fun g => o_mv rfl) (qc rfl rfl (s_gt rfl rfl fun g => o_ix (sz := 6) Try.underlying37 (fun _ => by kernel_rfl) (evg rfl g) (evg rfl g) hv29 hi29) (qc rfl rfl (s_gt rfl rfl fun g => o_fa fa25_0 (evg rfl g)) (qc rfl rfl (s_gt rfl rfl fun g => o_ldR sc23 (evg rfl g) hR29 (rok 0 he29 (by decide))) (qc rfl rfl (s_gt rfl rfl fun g => o_fa fa25_0 rfl) (qc rfl rfl (s_gt rfl rfl fun g => o_ld 1 sc23 (evg rfl g) rfl rfl) (qc rfl rfl (s_gt rfl rfl fun g => o_bin (evg rfl g) (evg rfl g) (bW_gt x29.V ((cell_Cell_Chosen c_18).V))) (qc rfl rfl (s_u (o_and rfl rfl)) (qc rfl rfl (s_u (o_bin rfl rfl (bB_ne Try.underlying4 r31.1 ((hawthornref16_Check x29) && decide (((cell_Cell_Chosen c_18).V) < x29.V))))) (qc rfl rfl (s_u (o_mv rfl)) (qc rfl rfl (s_y rfl rfl h51 (o_mv rfl)) (qc rfl rfl (s_y rfl rfl h51 (o_mv rfl)) (qc rfl rfl (s_y rfl rfl h57 (o_mv rfl)) (qc rfl rfl (s_y rfl rfl h57 (o_mv rfl)) (qc rfl rfl (s_y rfl rfl h57 (o_mv rfl)) (qc rfl rfl (s_y rfl rfl h57 (o_ix (sz := 6) Try.underlying37 (fun _ => by kernel_rfl) rfl rfl hv29 hi29)) (qc rfl rfl (s_y rfl rfl h57 (o_ldnR (api_View.c x29) ag25 rfl hR29 he29 rfl)) qn))))))))))))))))))))))))) ?_ (fun h => absurd h (by decide))
                        refine ec (eo_c rfl (s_yw rfl rfl h57 (o_call ca12 rfl (cell_Cell_Chosen.ok b4 r31.2 _ rfl))) ?_) en
                        refine stage_ext [(26, vB (!(decide ((cell_Cell_Chosen r31.2) = x29)))), (27, vB (!(decide ((cell_Cell_Chosen r31.2) = x29)))), (28, vB (!(decide ((cell_Cell_Chosen r31.2) = x29)))), (29, vB (!(decide ((cell_Cell_Chosen r31.2) = x29)))), (30, vB r31.1), (31, vB !r31.1), (32, vB !r31.1), (33, undef), (34, undef), (35, undef), (36, undef), (37, vB false), (38, vB false)] rfl ?_
                        refine stage rfl rfl rfl rfl [0, 0, 0, 6, 14, 30, 62, 126, 126, 510, 1022, 2046, 126, 4222, 16382, 32766, 65535, 131071, 262143, 524287, 1048575, 2097151, 1048575, 1048575, 13631487, 30408703, 67108863, 134217727, 268435455, 536870911, 1073741823, 2147483647, 4294967295, 8589934591, 17179869183, 8589934591, 68719476735, 137438953471, 274877906943] [22, 23, 24, 25, 26, 27, 28, 29, 30, 31, 32, 33, 34, 35, 36, 37, 38] [] rfl rfl rfl (qc rfl rfl (s_y rfl rfl h57 (o_mv rfl)) (qc rfl rfl (s_y rfl rfl h57 (o_mv rfl)) (qc rfl rfl (s_y rfl rfl h57 (o_ix (sz := 6) Try.underlying37 (fun _ => by kernel_rfl) rfl rfl hv29 hi29)) (qc rfl rfl (s_y rfl rfl h57 (o_ldnR (api_View.c x29) ag25 rfl hR29 he29 rfl)) (qc rfl rfl (s_y rfl rfl h57 (o_bin rfl rfl (api_View.bne_25 (cell_Cell_Chosen r31.2) x29))) (qc rfl rfl (s_y rfl rfl h51 (o_pt rfl h57 rfl)) (qc rfl rfl (s_u (o_pf rfl h51 rfl)) (qc rfl rfl (s_u (o_mv rfl)) (qc rfl rfl (s_y rfl rfl (nbf h63) (o_mv rfl)) (qc rfl rfl (s_y rfl rfl (nbf h63) (o_not rfl)) (qc rfl rfl (s_y rfl rfl (nbf h63) (o_mv rfl)) (qc rfl rfl (s_n rfl rfl (nbf h57)) (qc rfl rfl (s_n rfl rfl (nbf h57)) (qc rfl rfl (s_n rfl rfl (nbf h57)) (qc rfl rfl (s_n rfl rfl (nbf h57)) (qc rfl rfl (s_y rfl rfl (nbf h63) (o_pf rfl (nbf h57) rfl)) (qc rfl rfl (s_u (o_pf rfl (nbf h63) rfl)) qn))))))))))))))))) en ?_
                        intro _
                        refine ex_sub (E' := [(0, v0), (3, pt b4 0), (5, vW (ballot_16 + 1)), (6, vI i_17), (8, vB r31.1), (85, vB false)]) ⟨rfl, rfl, rfl, rfl, rfl, rfl, trivial⟩ ?_
                        obtain rfl := Option.some.inj hm64
                        exact x_sub (K62) ⟨rfl, rfl, rfl, rfl, rfl, rfl, trivial⟩ (fun _ h => st_pk 2 [0, 1] (by decide) h)
                      · have hm64 := iff_ hp60 h63
                        refine c_any mixed (effs := [21]) (V := []) ?_
                        refine stage_ext [(0, vB r31.1), (1, v0), (2, vI i_17), (3, pt b29 (o29 + i_17.toNat * 6)), (4, .agg (api_View.c x29).toArray), (5, vB (hawthornref16_Check x29)), (6, vB (hawthornref16_Check x29)), (7, gv (hawthornref16_Check x29) v0), (8, gv (hawthornref16_Check x29) (vI i_17)), (9, gv (hawthornref16_Check x29) (pt b29 (o29 + i_17.toNat * 6))), (10, gv (hawthornref16_Check x29) (pt b29 (o29 + i_17.toNat * 6))), (11, gv (hawthornref16_Check x29) (vW x29.V)), (12, gv (hawthornref16_Check x29) (pt b24 0)), (13, gv (hawthornref16_Check x29) (vW ((cell_Cell_Chosen c_18).V))), (14, gv (hawthornref16_Check x29) (vB (decide (((cell_Cell_Chosen c_18).V) < x29.V)))), (15, vB ((hawthornref16_Check x29) && decide (((cell_Cell_Chosen c_18).V) < x29.V))), (16, vB (r31.1 != ((hawthornref16_Check x29) && decide (((cell_Cell_Chosen c_18).V) < x29.V)))), (17, vB (r31.1 != ((hawthornref16_Check x29) && decide (((cell_Cell_Chosen c_18).V) < x29.V)))), (18, vB r31.1), (19, vB r31.1), (20, pt b4 0), (22, v0), (23, vI i_17), (24, pt b29 (o29 + i_17.toNat * 6)), (25, .agg (api_View.c x29).toArray)] rfl ?_
                        refine stage rfl rfl rfl rfl [0, 0, 0, 6, 14, 30, 62, 126, 126, 510, 1022, 2046, 126, 4222, 16382, 32766, 65535, 131071, 262143, 524287, 1048575, 2097151, 1048575, 1048575, 13631487, 30408703, 67108863, 134217727, 268435455, 536870911, 1073741823, 2147483647, 4294967295, 8589934591, 17179869183, 8589934591, 68719476735, 137438953471, 274877906943] [0, 1, 2, 3, 4, 5, 6, 7, 8, 9, 10, 11, 12, 13, 14, 15, 16, 17, 18, 19, 20, 22, 23, 24, 25] [21] rfl rfl rfl (qc rfl rfl (s_u (o_mv rfl)) (qc rfl rfl (s_u (o_mv rfl)) (qc rfl rfl (s_u (o_mv rfl)) (qc rfl rfl (s_u (o_ix (sz := 6) Try.underlying37 (fun _ => by kernel_rfl) rfl rfl hv29 hi29)) (qc rfl rfl (s_u (o_ldnR (api_View.c x29) ag25 rfl hR29 he29 rfl)) (qc rfl rfl (s_u (o_callq ca14 rfl (hawthornref16_Check.ok x29 _ rfl))) (qc rfl rfl (s_u (o_mv rfl)) (qc rfl rfl (s_gt rfl rfl fun g => o_mv rfl) (qc rfl rfl (s_gt rfl rfl fun g => o_mv rfl) (qc rfl rfl (s_gt rfl rfl fun g => o_ix (sz := 6) Try.underlying37 (fun _ => by kernel_rfl) (evg rfl g) (evg rfl g) hv29 hi29) (qc rfl rfl (s_gt rfl rfl fun g => o_fa fa25_0 (evg rfl g)) (qc rfl rfl (s_gt rfl rfl fun g => o_ldR sc23 (evg rfl g) hR29 (rok 0 he29 (by decide))) (qc rfl rfl (s_gt rfl rfl fun g => o_fa fa25_0 rfl) (qc rfl rfl (s_gt rfl rfl fun g => o_ld 1 sc23 (evg rfl g) rfl rfl) (qc rfl rfl (s_gt rfl rfl fun g => o_bin (evg rfl g) (evg rfl g) (bW_gt x29.V ((cell_Cell_Chosen c_18).V))) (qc rfl rfl (s_u (o_and rfl rfl)) (qc rfl rfl (s_u (o_bin rfl rfl (bB_ne Try.underlying4 r31.1 ((hawthornref16_Check x29) && decide (((cell_Cell_Chosen c_18).V) < x29.V))))) (qc rfl rfl (s_u (o_mv rfl)) (qc rfl rfl (s_y rfl rfl h51 (o_mv rfl)) (qc rfl rfl (s_y rfl rfl h51 (o_mv rfl)) (qc rfl rfl (s_y rfl rfl h57 (o_mv rfl)) (qc rfl rfl (s_y rfl rfl h57 (o_mv rfl)) (qc rfl rfl (s_y rfl rfl h57 (o_mv rfl)) (qc rfl rfl (s_y rfl rfl h57 (o_ix (sz := 6) Try.underlying37 (fun _ => by kernel_rfl) rfl rfl hv29 hi29)) (qc rfl rfl (s_y rfl rfl h57 (o_ldnR (api_View.c x29) ag25 rfl hR29 he29 rfl)) qn))))))))))))))))))))))))) ?_ (fun h => absurd h (by decide))
                        refine ec (eo_c rfl (s_yw rfl rfl h57 (o_call ca12 rfl (cell_Cell_Chosen.ok b4 r31.2 _ rfl))) ?_) en
                        refine stage_ext [(26, vB (!(decide ((cell_Cell_Chosen r31.2) = x29)))), (27, vB (!(decide ((cell_Cell_Chosen r31.2) = x29)))), (28, vB (!(decide ((cell_Cell_Chosen r31.2) = x29)))), (29, vB (!(decide ((cell_Cell_Chosen r31.2) = x29)))), (30, undef), (31, undef), (32, undef), (33, undef), (34, undef), (35, undef), (36, undef), (37, undef), (38, vB true)] rfl ?_
                        refine stage rfl rfl rfl rfl [0, 0, 0, 6, 14, 30, 62, 126, 126, 510, 1022, 2046, 126, 4222, 16382, 32766, 65535, 131071, 262143, 524287, 1048575, 2097151, 1048575, 1048575, 13631487, 30408703, 67108863, 134217727, 268435455, 536870911, 1073741823, 2147483647, 4294967295, 8589934591, 17179869183, 8589934591, 68719476735, 137438953471, 274877906943] [22, 23, 24, 25, 26, 27, 28, 29, 30, 31, 32, 33, 34, 35, 36, 37, 38] [] rfl rfl rfl (qc rfl rfl (s_y rfl rfl h57 (o_mv rfl)) (qc rfl rfl (s_y rfl rfl h57 (o_mv rfl)) (qc rfl rfl (s_y rfl rfl h57 (o_ix (sz := 6) Try.underlying37 (fun _ => by kernel_rfl) rfl rfl hv29 hi29)) (qc rfl rfl (s_y rfl rfl h57 (o_ldnR (api_View.c x29) ag25 rfl hR29 he29 rfl)) (qc rfl rfl (s_y rfl rfl h57 (o_bin rfl rfl (api_View.bne_25 (cell_Cell_Chosen r31.2) x29))) (qc rfl rfl (s_y rfl rfl h51 (o_pt rfl h57 rfl)) (qc rfl rfl (s_u (o_pf rfl h51 rfl)) (qc rfl rfl (s_u (o_mv rfl)) (qc rfl rfl (s_n rfl rfl (nbt h63)) (qc rfl rfl (s_n rfl rfl (nbt h63)) (qc rfl rfl (s_n rfl rfl (nbt h63)) (qc rfl rfl (s_nu rfl rfl) (qc rfl rfl (s_nu rfl rfl) (qc rfl rfl (s_nu rfl rfl) (qc rfl rfl (s_nu rfl rfl) (qc rfl rfl (s_n rfl rfl (nbt h63)) (qc rfl rfl (s_u (o_pt rfl (nbt h63) rfl)) qn))))))))))))))))) en ?_
                        intro _
                        refine ex_sub (E' := [(0, v0), (3, pt b4 0), (5, vW (ballot_16 + 1)), (6, vI i_17), (8, vB r31.1), (85, vB true)]) ⟨rfl, rfl, rfl, rfl, rfl, rfl, trivial⟩ ?_
                        obtain rfl := Option.some.inj hm64
                        exact x_sub (K62) ⟨rfl, rfl, rfl, rfl, rfl, rfl, trivial⟩ (fun _ h => st_pk 2 [0, 1] (by decide) h)
                  · have hm58 := iff_ hp54 h57
                    refine c_any mixed (effs := [34]) (V := []) ?_
                    refine stage_ext [(0, vB r31.1), (1, v0), (2, vI i_17), (3, pt b29 (o29 + i_17.toNat * 6)), (4, .agg (api_View.c x29).toArray), (5, vB (hawthornref16_Check x29)), (6, vB (hawthornref16_Check x29)), (7, gv (hawthornref16_Check x29) v0), (8, gv (hawthornref16_Check x29) (vI i_17)), (9, gv (hawthornref16_Check x29) (pt b29 (o29 + i_17.toNat * 6))), (10, gv (hawthornref16_Check x29) (pt b29 (o29 + i_17.toNat * 6))), (11, gv (hawthornref16_Check x29) (vW x29.V)), (12, gv (hawthornref16_Check x29) (pt b24 0)), (13, gv (hawthornref16_Check x29) (vW ((cell_Cell_Chosen c_18).V))), (14, gv (hawthornref16_Check x29) (vB (decide (((cell_Cell_Chosen c_18).V) < x29.V)))), (15, vB ((hawthornref16_Check x29) && decide (((cell_Cell_Chosen c_18).V) < x29.V))), (16, vB (r31.1 != ((hawthornref16_Check x29) && decide (((cell_Cell_Chosen c_18).V) < x29.V)))), (17, vB (r31.1 != ((hawthornref16_Check x29) && decide (((cell_Cell_Chosen c_18).V) < x29.V)))), (18, vB r31.1), (19, vB r31.1), (20, undef), (21, undef), (22, undef), (23, undef), (24, undef), (25, undef), (26, undef), (27, vB false), (28, vB false), (29, vB false), (30, vB r31.1), (31, vB !r31.1), (32, vB !r31.1), (33, pt b4 0), (35, .agg (api_View.c (cell_Cell_Chosen c_18)).toArray)] rfl ?_
                    refine stage rfl rfl rfl rfl [0, 0, 0, 6, 14, 30, 62, 126, 126, 510, 1022, 2046, 126, 4222, 16382, 32766, 65535, 131071, 262143, 524287, 1048575, 2097151, 1048575, 1048575, 13631487, 30408703, 67108863, 134217727, 268435455, 536870911, 1073741823, 2147483647, 4294967295, 8589934591, 17179869183, 8589934591, 68719476735, 137438953471, 274877906943] [0, 1, 2, 3, 4, 5, 6, 7, 8, 9, 10, 11, 12, 13, 14, 15, 16, 17, 18, 19, 20, 21, 22, 23, 24, 25, 26, 27, 28, 29, 30, 31, 32, 33, 35] [34] rfl rfl rfl (qc rfl rfl (s_u (o_mv rfl)) (qc rfl rfl (s_u (o_mv rfl)) (qc rfl rfl (s_u (o_mv rfl)) (qc rfl rfl (s_u (o_ix (sz := 6) Try.underlying37 (fun _ => by kernel_rfl) rfl rfl hv29 hi29)) (qc rfl rfl (s_u (o_ldnR (api_View.c x29) ag25 rfl hR29 he29 rfl)) (qc rfl rfl (s_u (o_callq ca14 rfl (hawthornref16_Check.ok x29 _ rfl))) (qc rfl rfl (s_u (o_mv rfl)) (qc rfl rfl (s_gt rfl rfl fun g => o_mv rfl) (qc rfl rfl (s_gt rfl rfl fun g => o_mv rfl) (qc rfl rfl (s_gt rfl rfl fun g => o_ix (sz := 6) Try.underlying37 (fun _ => by kernel_rfl) (evg rfl g) (evg rfl g) hv29 hi29) (qc rfl rfl (s_gt rfl rfl fun g => o_fa fa25_0 (evg rfl g)) (qc rfl rfl (s_gt rfl rfl fun g => o_ldR sc23 (evg rfl g) hR29 (rok 0 he29 (by decide))) (qc rfl rfl (s_gt rfl rfl fun g => o_fa fa25_0 rfl) (qc rfl rfl (s_gt rfl rfl fun g => o_ld 1 sc23 (evg rfl g) rfl rfl) (qc rfl rfl (s_gt rfl rfl fun g => o_bin (evg rfl g) (evg rfl g) (bW_gt x29.V ((cell_Cell_Chosen c_18).V))) (qc rfl rfl (s_u (o_and rfl rfl)) (qc rfl rfl (s_u (o_bin rfl rfl (bB_ne Try.underlying4 r31.1 ((hawthornref16_Check x29) && decide (((cell_Cell_Chosen c_18).V) < x29.V))))) (qc rfl rfl (s_u (o_mv rfl)) (qc rfl rfl (s_y rfl rfl h51 (o_mv rfl)) (qc rfl rfl (s_y rfl rfl h51 (o_mv rfl)) (qc rfl rfl (s_n rfl rfl h57) (qc rfl rfl (s_n rfl rfl h57) (qc rfl rfl (s_n rfl rfl h57) (qc rfl rfl (s_n rfl rfl h57) (qc rfl rfl (s_n rfl rfl h57) (qc rfl rfl (s_n rfl rfl h57) (qc rfl rfl (s_n rfl rfl h57) (qc rfl rfl (s_y rfl rfl h51 (o_pf rfl h57 rfl)) (qc rfl rfl (s_u (o_pf rfl h51 rfl)) (qc rfl rfl (s_u (o_mv rfl)) (qc rfl rfl (s_y rfl rfl rfl (o_mv rfl)) (qc rfl rfl (s_y rfl rfl rfl (o_not rfl)) (qc rfl rfl (s_y rfl rfl rfl (o_mv rfl)) (qc rfl rfl (s_y rfl rfl (nbt h57) (o_mv rfl)) (qc rfl rfl (s_y rfl rfl (nbt h57) (o_ldn 1 (api_View.c (cell_Cell_Chosen c_18)) ag25 rfl rfl rfl rfl)) qn))))))))))))))))))))))))))))))))))) ?_ (fun h => absurd h (by decide))
                    refine ec (eo_c rfl (s_yw rfl rfl (nbt h57) (o_call ca12 rfl (cell_Cell_Chosen.ok b4 r31.2 _ rfl))) ?_) en
                    refine stage_ext [(36, vB (!(decide ((cell_Cell_Chosen r31.2) = (cell_Cell_Chosen c_18))))), (37, vB (!(decide ((cell_Cell_Chosen r31.2) = (cell_Cell_Chosen c_18))))), (38, vB (!(decide ((cell_Cell_Chosen r31.2) = (cell_Cell_Chosen c_18)))))] rfl ?_
                    refine stage rfl rfl rfl rfl [0, 0, 0, 6, 14, 30, 62, 126, 126, 510, 1022, 2046, 126, 4222, 16382, 32766, 65535, 131071, 262143, 524287, 1048575, 2097151, 1048575, 1048575, 13631487, 30408703, 67108863, 134217727, 268435455, 536870911, 1073741823, 2147483647, 4294967295, 8589934591, 17179869183, 8589934591, 68719476735, 137438953471, 274877906943] [35, 36, 37, 38] [] rfl rfl rfl (qc rfl rfl (s_y rfl rfl (nbt h57) (o_ldn 1 (api_View.c (cell_Cell_Chosen c_18)) ag25 rfl rfl rfl rfl)) (qc rfl rfl (s_y rfl rfl (nbt h57) (o_bin rfl rfl (api_View.bne_25 (cell_Cell_Chosen r31.2) (cell_Cell_Chosen c_18)))) (qc rfl rfl (s_y rfl rfl rfl (o_pt rfl (nbt h57) rfl)) (qc rfl rfl (s_u (o_pf rfl rfl rfl)) qn)))) en ?_
                    intro _
                    refine ex_sub (E' := [(0, v0), (3, pt b4 0), (5, vW (ballot_16 + 1)), (6, vI i_17), (8, vB r31.1), (85, vB (!(decide ((cell_Cell_Chosen r31.2) = (cell_Cell_Chosen c_18)))))]) ⟨rfl, rfl, rfl, rfl, rfl, rfl, trivial⟩ ?_
                    obtain rfl := Option.some.inj hm58
                    exact x_sub (K56) ⟨rfl, rfl, rfl, rfl, rfl, rfl, trivial⟩ (fun _ h => st_pk 2 [0, 1] (by decide) h)
        · have hm23 := iff_ hm20 h22
          refine c_exit (x_exit (ks' := _) rfl ?_)
          obtain rfl := Option.some.inj hm23
          exact x_sub (K15 _ rfl) trivial (fun _ h => st_pk 1 [0] (by decide) h)

end Go.Proofs.Ytbldbopiofinbaa
