import Derived.Test.YtlahbmoebbflbaaFacts
import Derived.Test.YtlahbmoebbflbaaHwX
set_option linter.unusedVariables false
set_option linter.unusedSectionVars false
set_option linter.unusedSimpArgs false
set_option maxRecDepth 100000
set_option maxHeartbeats 8000000
namespace Go.Proofs.Ytlahbmoebbflbaa
open Go Go.Proofs.Ytlahbmoebbflbaa.Hw
theorem noEsc (v : Value) (w : World) : (callFunc 88 #[v]).run Try.prog w = .ok (.value v) w := by
  rw [run_callFunc_extern Try.func88 (by kernel_rfl) (by kernel_rfl) (by kernel_rfl) (e := Extern.AbiNoEscape.same) (by kernel_rfl), Lib.run_noEscape]
  rfl
theorem infoB : ∃ j, Try.prog.info? 97 = some j ∧ j.size ≠ 0 := ⟨_, rfl, by decide⟩
theorem bld_copyCheck.ok {G R F} (b : Nat) (p v : Value) (hp : p = nl ∨ p = pt b 0) : CO Try.prog 84 [pt b 0] G R (Blk b (.cells (List.toArray [p, v]) 97 (0, 0)) :: F)
    (Ret fun u R' L' => u = .tuple #[] ∧ R' = R ∧ L' = Blk b (.cells (List.toArray [pt b 0, v]) 97 (0, 0)) :: F) := by
  obtain ⟨j, hj, hj0⟩ := infoB
  refine co_ofN (N := 20) Try.func84 rfl rfl ?_
  refine c_seq ?_
  refine c_reg ?_
  refine r_u (o_mv rfl) ?_
  refine r_u (o_nc rfl) ?_
  refine r_u (o_fa fa97_0 rfl) ?_
  refine r_u (o_ld 0 sc95 rfl rfl rfl) ?_
  rcases hp with rfl | rfl
  · refine r_u (o_bin rfl rfl (bP_eqn Try.underlying95)) ?_
    refine r_nil ?_
    refine x_seq ?_
    refine c_tt rfl ?_
    refine c_reg ?_
    refine r_u (o_mv rfl) ?_
    refine r_u (o_mv rfl) ?_
    refine r_u (o_tu 0 Try.underlying95 Try.underlying125 hj hj0 rfl rfl rfl) ?_
    refine r_u (o_same noEsc rfl) ?_
    refine r_u (o_fu 0 Try.underlying125 Try.underlying95 hj rfl rfl (by kernel_rfl)) ?_
    refine r_u (o_nc rfl) ?_
    refine r_u (o_fa fa97_0 rfl) ?_
    refine r_u0 (o_st sc95 rfl rfl rfl rfl rfl rfl) ?_
    refine r_nil ?_
    refine x_end ?_
    exact x_r0 rfl (Le.refl _) ⟨_, rfl, rfl, rfl, rfl⟩
  · refine r_u (o_bin rfl rfl (bP_eqp Try.underlying95)) ?_
    refine r_nil ?_
    refine x_seq ?_
    refine c_ff rfl ?_
    refine c_seq ?_
    refine c_reg ?_
    refine r_u (o_mv rfl) ?_
    refine r_u (o_nc rfl) ?_
    refine r_u (o_fa fa97_0 rfl) ?_
    refine r_u (o_ld 0 sc95 rfl rfl rfl) ?_
    refine r_u (o_mv rfl) ?_
    refine r_u (o_bin rfl rfl (bP_same Try.underlying95 hj)) ?_
    refine r_nil ?_
    refine x_seq ?_
    refine c_ff rfl ?_
    refine c_skip ?_
    refine x_end ?_
    exact x_r0 rfl (Le.refl _) ⟨_, rfl, rfl, rfl, rfl⟩

theorem bld_WriteByte.ok {G R F} (b : Nat) (s : Str) (c : UInt8) (r : Str) (hm : apd 1 s [c] = some r) : CO Try.prog 68 [pt b 0, vY c] G R (Bld 97 5 b s :: F)
    (Ret fun u R' L' => u = .nilIface ∧ R' = R ∧ L' = Bld 97 5 b r :: F) := by
  refine co_ofN (N := 17) Try.func68 rfl rfl ?_
  refine bld_open_cd fun p v hp hv => ?_
  refine c_seq ?_
  refine c_reg ?_
  refine r_u (o_as rfl) ?_
  refine r_nil ?_
  refine x_seq ?_
  refine c_seq ?_
  refine c_reg ?_
  refine r_u (o_mv rfl) ?_
  refine r_c (s_w (o_call ca84 rfl (bld_copyCheck.ok b p v hp))) ?_
  refine r_nil ?_
  refine x_seq ?_
  refine c_seq ?_
  refine c_reg ?_
  refine r_u (o_mv rfl) ?_
  refine r_u (o_mv rfl) ?_
  refine r_u (o_nc rfl) ?_
  refine r_u (o_fa fa97_1 rfl) ?_
  refine r_u (o_ld 0 sc67 rfl rfl rfl) ?_
  refine r_u (o_mv rfl) ?_
  refine r_sw (s_w (o_bsl (en := eY) (sz := 1) (e := 5) (cs := [vY c]) (r := [c]) rfl (fun _ => by kernel_rfl) rfl (by decide) rfl (fun _ => rfl))) ?_
  rintro v2 _ _ _ ⟨rfl, rfl⟩
  refine rl_st (fun _ h => st_pk 3 [2, 0, 1] (by decide) h) ?_
  refine r_sw (s_w (o_ap (sz := 1) (bytes := 1) 0 Try.underlying67 rfl rfl rfl rfl rfl (by decide) (by decide) (fun _ _ _ h => by simp at h; subst h; rfl) (fun _ => rfl) rfl rfl rfl rfl (Nat.succ_pos _) hm)) ?_
  rintro v3 _ _ _ ⟨rfl, rfl⟩
  refine r_u (o_nc rfl) ?_
  refine r_u (o_fa fa97_1 rfl) ?_
  refine rl_st (fun _ h => st_pk 3 [2, 0] (by decide) h) ?_
  refine r_u0 (o_stS 1 sc67 rfl rfl rfl rfl rfl rfl) ?_
  refine r_nil ?_
  refine x_seq ?_
  refine c_seq ?_
  refine c_reg ?_
  refine r_u (o_as rfl) ?_
  refine r_nil ?_
  refine x_seq ?_
  refine c_ret ?_
  refine ex_st (fun _ h => bld_close (.inr rfl) (fun e => by unfold apd at hm; split at hm <;> simp_all) h) ?_
  exact x_r1 rfl (rv_t rfl) (Le.refl _) ⟨_, rfl, rfl, rfl, rfl⟩

theorem bld_String.ok {G R F} (b : Nat) (s : Str) : CO Try.prog 69 [pt b 0] G R (Bld 97 5 b s :: F)
    (Ret fun u R' L' => u = vS s ∧ R' = R ∧ L' = F) := by
  refine co_ofN (N := 14) Try.func69 rfl rfl ?_
  refine bld_open_cd fun p v hp hv => ?_
  refine c_seq ?_
  refine c_reg ?_
  refine r_u (o_as rfl) ?_
  refine r_nil ?_
  refine x_seq ?_
  refine c_seq ?_
  by_cases hs : s = []
  · obtain rfl := hv hs
    subst hs
    refine c_any mixed (effs := []) (V := []) ?_
    refine stage_ext [(0, pt b 0), (1, pt b 0), (2, pt b 1), (3, .slice none 0 0), (4, nl), (5, pt b 0), (6, pt b 0), (7, pt b 1), (8, .slice none 0 0), (9, vI 0), (10, vS []), (11, vS [])] rfl ?_
    refine stage rfl rfl rfl rfl [0, 1, 3, 7, 15, 0, 32, 96, 224, 480, 1023, 2047] [0, 1, 2, 3, 4, 5, 6, 7, 8, 9, 10, 11] [] rfl rfl rfl (qc rfl rfl (s_u (o_mv rfl)) (qc rfl rfl (s_u (o_nc rfl)) (qc rfl rfl (s_u (o_fa fa97_1 rfl)) (qc rfl rfl (s_u (o_ld 0 sc67 rfl rfl rfl)) (qc rfl rfl (s_u (o_sdn rfl)) (qc rfl rfl (s_u (o_mv rfl)) (qc rfl rfl (s_u (o_nc rfl)) (qc rfl rfl (s_u (o_fa fa97_1 rfl)) (qc rfl rfl (s_u (o_ld 0 sc67 rfl rfl rfl)) (qc rfl rfl (s_u (o_lenN Try.underlying67 rfl)) (qc rfl rfl (s_u (o_usn rfl rfl)) (qc rfl rfl (s_u (o_as rfl)) qn)))))))))))) en ?_
    intro _
    refine ex_sub (E' := [(2, vS [])]) ⟨rfl, trivial⟩ ?_
    refine x_seq ?_
    refine c_ret ?_
    refine ex_st (fun _ h => st_pk 2 [] (by decide) h) ?_
    exact x_r1 rfl (rv_t rfl) (Le.refl _) ⟨_, rfl, rfl, rfl, rfl⟩
  · refine c_any mixed (effs := [10]) (V := []) ?_
    refine stage_ext [(0, pt b 0), (1, pt b 0), (2, pt b 1), (3, v), (4, pt (sb v) 0), (5, pt b 0), (6, pt b 0), (7, pt b 1), (8, v), (9, vI s.length)] rfl ?_
    refine stage_st (fun _ h => st_pk 2 [1, 0] (by decide) h) ?_
    refine stage rfl rfl rfl rfl [0, 1, 3, 7, 15, 0, 32, 96, 224, 480, 1023, 2047] [0, 1, 2, 3, 4, 5, 6, 7, 8, 9] [10] rfl rfl rfl (qc rfl rfl (s_u (o_mv rfl)) (qc rfl rfl (s_u (o_nc rfl)) (qc rfl rfl (s_u (o_fa fa97_1 rfl)) (qc rfl rfl (s_u (o_ld 1 sc67 rfl rfl rfl)) (qc rfl rfl (s_u (o_sd 0 rfl rfl hs)) (qc rfl rfl (s_u (o_mv rfl)) (qc rfl rfl (s_u (o_nc rfl)) (qc rfl rfl (s_u (o_fa fa97_1 rfl)) (qc rfl rfl (s_u (o_ld 1 sc67 rfl rfl rfl)) (qc rfl rfl (s_u (o_lenO 0 Try.underlying67 rfl rfl)) qn)))))))))) ?_ (fun h => absurd h (by decide))
    refine ec (eo_u rfl (s_u (o_us Try.underlying120 (by kernel_rfl) rfl rfl rfl hs)) (Le.refl _) ?_) en
    refine stage_ext [(11, vS s)] rfl ?_
    refine stage rfl rfl rfl rfl [0, 1, 3, 7, 15, 0, 32, 96, 224, 480, 1023, 2047] [11] [] rfl rfl rfl (qc rfl rfl (s_u (o_as rfl)) qn) en ?_
    intro _
    refine ex_sub (E' := [(2, vS s)]) ⟨rfl, trivial⟩ ?_
    refine x_seq ?_
    refine c_ret ?_
    refine ex_st (fun _ h => st_pk 1 [] (by decide) h) ?_
    exact x_r1 rfl (rv_t rfl) (Le.refl _) ⟨_, rfl, rfl, rfl, rfl⟩
structure sketch_Sketch where
  wide : Int
  seed : UInt64
  rows : List (List UInt8)
  door : List Bool
  added : Int
  deriving DecidableEq, Inhabited
structure sketch_Sketch.G where
  rows : _root_.Go.Value × _root_.Go.Value × _root_.Go.Value × _root_.Go.Value
  door : _root_.Go.Value

instance : Inhabited sketch_Sketch.G := ⟨⟨(nl, nl, nl, nl), nl⟩⟩
def sketch_Sketch.fl (b : Nat) (x : sketch_Sketch) (g : sketch_Sketch.G) : List HP := [Bk b 70 [vI x.wide, vW x.seed, g.rows.1, g.rows.2.1, g.rows.2.2.1, g.rows.2.2.2, g.door, vI x.added], OwL (OwS false 5 1 eY) [g.rows.1, g.rows.2.1, g.rows.2.2.1, g.rows.2.2.2] x.rows, OwS true 4 1 eB g.door x.door]
def sketch_Sketch.op (g : sketch_Sketch.G) : Nat → sketch_Sketch → HP := fun b x => star (sketch_Sketch.fl b x g)
structure hawthornref05_Sketch where
  Wide : Int
  Seed : UInt64
  Rows : List (List Int)
  Door : List Bool
  Added : Int
  deriving DecidableEq, Inhabited
structure hawthornref05_Sketch.G where
  Rows : _root_.Go.Value × List _root_.Go.Value
  Door : _root_.Go.Value

instance : Inhabited hawthornref05_Sketch.G := ⟨⟨(nl, []), nl⟩⟩
def hawthornref05_Sketch.fl (b : Nat) (x : hawthornref05_Sketch) (g : hawthornref05_Sketch.G) : List HP := [Bk b 36 [vI x.Wide, vW x.Seed, g.Rows.1, g.Door, vI x.Added], OwS true 74 1 eV g.Rows.1 g.Rows.2, OwL (OwS true 3 1 eI) g.Rows.2 x.Rows, OwS true 4 1 eB g.Door x.Door]
def hawthornref05_Sketch.op (g : hawthornref05_Sketch.G) : Nat → hawthornref05_Sketch → HP := fun b x => star (hawthornref05_Sketch.fl b x g)
def hawthornref05_Sketch.ro (R : PH) (x : hawthornref05_Sketch) (g : hawthornref05_Sketch.G) : Prop := (RoN R g.Rows.1 1 (fun x => [vI x]) x.Rows) ∧ (RoS R g.Door 1 (fun x => [vB x]) x.Door)
structure ring_slot where
  key : Str
  list : Int
  prev : Int
  next : Int
  deriving DecidableEq, Inhabited
def ring_slot.c (x : ring_slot) : List _root_.Go.Value := [vS x.key, vI x.list, vI x.prev, vI x.next]
abbrev ring_slot.v (x : ring_slot) : _root_.Go.Value := .agg (ring_slot.c x).toArray
structure ring_Rings where
  lists : Int
  slots : List ring_slot
  free : List Int
  at_ : List (Str × Int)
  many : List Int
  deriving DecidableEq, Inhabited
structure ring_Rings.G where
  slots : _root_.Go.Value
  free : _root_.Go.Value
  at_ : _root_.Go.Value
  many : _root_.Go.Value

instance : Inhabited ring_Rings.G := ⟨⟨nl, nl, nl, nl⟩⟩
def ring_Rings.fl (b : Nat) (x : ring_Rings) (g : ring_Rings.G) : List HP := [Bk b 111 [vI x.lists, g.slots, g.free, g.at_, g.many], OwS true 113 4 ring_slot.c g.slots x.slots, OwS true 3 1 eI g.free x.free, OwM vS vI g.at_ x.at_, OwS true 3 1 eI g.many x.many]
def ring_Rings.op (g : ring_Rings.G) : Nat → ring_Rings → HP := fun b x => star (ring_Rings.fl b x g)
structure tiny_Tiny where
  most : Int
  s : Option sketch_Sketch
  r : Option ring_Rings
  deriving DecidableEq, Inhabited
structure tiny_Tiny.G where
  s : _root_.Go.Value × sketch_Sketch.G
  r : _root_.Go.Value × ring_Rings.G

instance : Inhabited tiny_Tiny.G := ⟨⟨(nl, default), (nl, default)⟩⟩
def tiny_Tiny.fl (b : Nat) (x : tiny_Tiny) (g : tiny_Tiny.G) : List HP := [Bk b 86 [vI x.most, g.s.1, g.r.1], rO (sketch_Sketch.op g.s.2) g.s.1 x.s, rO (ring_Rings.op g.r.2) g.r.1 x.r]
def tiny_Tiny.op (g : tiny_Tiny.G) : Nat → tiny_Tiny → HP := fun b x => star (tiny_Tiny.fl b x g)
structure api_Parts where
  Window : Int
  Protected : Int
  deriving DecidableEq, Inhabited
def api_Parts.c (x : api_Parts) : List _root_.Go.Value := [vI x.Window, vI x.Protected]
abbrev api_Parts.v (x : api_Parts) : _root_.Go.Value := .agg (api_Parts.c x).toArray
structure hawthornlaw08_Act where
  Kind : Int
  Key : Str
  deriving DecidableEq, Inhabited
def hawthornlaw08_Act.c (x : hawthornlaw08_Act) : List _root_.Go.Value := [vI x.Kind, vS x.Key]
abbrev hawthornlaw08_Act.v (x : hawthornlaw08_Act) : _root_.Go.Value := .agg (hawthornlaw08_Act.c x).toArray


def sketch_New_l0 (a0 : Int) : Nat → Int → (List (List UInt8)) → Option (List (List UInt8))
  | 0, _, _ => none
  | k14 + 1, s_11, c_12 => if decide (s_11 < 4) then (mks 1 a0 (0 : UInt8)).bind fun l20 => (gi c_12 s_11).bind fun y22 => sketch_New_l0 a0 k14 (i64 (s_11 + 1)) (ls c_12 s_11 l20) else some c_12
def sketch_New (a0 : Int) (a1 : UInt64) : Option (Option sketch_Sketch × Int) :=
  if (decide (a0 < 1) || decide (4096 < a0)) then some (none, 1) else (mks 1 a0 (false : Bool)).bind fun l3 => Option.bind (sketch_New_l0 a0 5 0 [[], [], [], []]) fun p6 => some ((some (⟨a0, a1, p6, l3, 0⟩ : sketch_Sketch)), 0)
theorem sketch_New.ok {G R F} (a0 : Int) (a1 : UInt64) (r : Option sketch_Sketch × Int) (hm : sketch_New a0 a1 = some r) : CO Try.prog 12 [vI a0, vW a1] G R (F)
    (Ret fun u R' L' => ∃ (p0 : Value × sketch_Sketch.G), u = .tuple #[p0.1, vI r.2] ∧ R' = R ∧ L' = rO (sketch_Sketch.op p0.2) p0.1 r.1 :: F) := by
  unfold sketch_New at hm
  refine co_ofN (N := 32) Try.func12 rfl rfl ?_
  refine c_seq ?_
  refine c_reg ?_
  refine r_u (o_as rfl) ?_
  refine r_u (o_as rfl) ?_
  refine r_nil ?_
  refine x_seq ?_
  refine c_seq ?_
  refine c_seq ?_
  refine c_reg ?_
  refine r_u (o_mv rfl) ?_
  refine r_u (o_bin rfl rfl (bI_lt a0 1)) ?_
  refine r_u (o_mv rfl) ?_
  refine r_s (s_gf rfl rfl fun g => o_mv rfl) ?_
  refine r_s (s_gf rfl rfl fun g => o_bin (evg rfl g) rfl (bI_gt a0 4096)) ?_
  refine r_u (o_or rfl rfl) ?_
  refine r_nil ?_
  refine x_seq ?_
  refine c_if (b := (decide (a0 < 1) || decide (4096 < a0))) rfl (fun h0 => ?_) fun h0 => ?_
  · have hm1 := ift hm h0
    clear hm
    refine c_seq ?_
    refine c_reg ?_
    refine r_u (o_as rfl) ?_
    refine r_u (o_as rfl) ?_
    refine r_nil ?_
    refine x_seq ?_
    refine c_ret ?_
    refine ex_st (fun _ h => st_none (f := sketch_Sketch.op default) h) ?_
    obtain rfl := Option.some.inj hm1
    exact x_r2 rfl (rv_t rfl) (rv_t rfl) (Le.refl _) ⟨_, rfl, (nl, default), rfl, rfl, rfl⟩
  · have hm1 := iff_ hm h0
    clear hm
    refine c_skip ?_
    refine x_seq ?_
    refine c_seq ?_
    refine c_reg ?_
    refine r_u (o_mv rfl) ?_
    refine r_u (o_mv rfl) ?_
    refine r_u (o_mv rfl) ?_
    obtain ⟨l3, hl3, hm4⟩ := bs hm1
    clear hm1
    refine r_sw (s_w (o_mk (sz := 1) (bytes := 1) (e := 4) (en := eB) Try.underlying34 rfl rfl rfl rfl rfl rfl rfl rfl rfl hl3)) ?_
    rintro v2 R _ _ ⟨rfl, rfl⟩
    refine r_u (ou_if (hd_o 0 rfl) fun hb0 => o_bld [vI a0, vW a1, .slice none 0 0, .slice none 0 0, .slice none 0 0, .slice none 0 0, v2, vI 0] rfl (fun _ => by obtain ⟨_, _, rfl⟩ := hb0; kernel_rfl)) ?_
    refine r_new (o_bx [vI a0, vW a1, .slice none 0 0, .slice none 0 0, .slice none 0 0, .slice none 0 0, v2, vI 0] rfl rfl) fun b5 => ?_
    refine r_u (o_as rfl) ?_
    refine r_nil ?_
    refine x_seq ?_
    refine c_seq ?_
    refine c_seq ?_
    refine c_reg ?_
    refine r_u (o_mv rfl) ?_
    refine r_nil ?_
    refine x_seq ?_
    obtain ⟨p6, hp8, hm9⟩ := bs hm4
    refine cd_cut (fun x ks => ∀ (g7 : Value × Value × Value × Value), EX x .normal ks [(6, pt b5 0)] R (Bk b5 70 [vI a0, vW a1, g7.1, g7.2.1, g7.2.2.1, g7.2.2.2, v2, vI 0] :: OwS true 4 1 eB v2 l3 :: OwL (OwS false 5 1 eY) [g7.1, g7.2.1, g7.2.2.1, g7.2.2.2] p6 :: F)) ?_ fun K10 => ?_
    · intro g7
      refine x_seq ?_
      refine c_seq ?_
      refine c_reg ?_
      refine r_u (o_mv rfl) ?_
      refine r_u (o_as rfl) ?_
      refine r_u (o_as rfl) ?_
      refine r_nil ?_
      refine x_seq ?_
      refine c_ret ?_
      refine ex_st (fun _ h => st_pk 3 [0, 2, 1] (by decide) h) ?_
      refine ex_st (fun _ h => st_some (f := sketch_Sketch.op (⟨g7, v2⟩ : sketch_Sketch.G)) (a := (⟨a0, a1, p6, l3, 0⟩ : sketch_Sketch)) (st_star_f (A := sketch_Sketch.fl b5 (⟨a0, a1, p6, l3, 0⟩ : sketch_Sketch) (⟨g7, v2⟩ : sketch_Sketch.G)) h)) ?_
      obtain rfl := Option.some.inj hm9
      exact x_r2 rfl (rv_t rfl) (rv_t rfl) (Le.refl _) ⟨_, rfl, (pt b5 0, (⟨g7, v2⟩ : sketch_Sketch.G)), rfl, rfl, rfl⟩
    · refine c_blk ?_
      refine cd_st (fun _ h => st_lnil4 (own := OwS false 5 1 eY) (fun _ => OwS.nil) h) ?_
      refine cd_loopG (M := fun k14 (s : Int × List (List UInt8) × (Value × Value × Value × Value)) => sketch_New_l0 a0 k14 s.1 s.2.1 = some p6) (Ef := fun (s : Int × List (List UInt8) × (Value × Value × Value × Value)) => [(0, vI a0), (6, pt b5 0), (20, vI s.1)]) (Rf := fun (s : Int × List (List UInt8) × (Value × Value × Value × Value)) => R) (Lf := fun (s : Int × List (List UInt8) × (Value × Value × Value × Value)) => Bk b5 70 [vI a0, vW a1, s.2.2.1, s.2.2.2.1, s.2.2.2.2.1, s.2.2.2.2.2, v2, vI 0] :: OwS true 4 1 eB v2 l3 :: OwL (OwS false 5 1 eY) [s.2.2.1, s.2.2.2.1, s.2.2.2.2.1, s.2.2.2.2.2] s.2.1 :: F) 5 (0, [[], [], [], []], (.slice none 0 0, .slice none 0 0, .slice none 0 0, .slice none 0 0)) hp8 ⟨rfl, rfl, rfl, trivial⟩ (fun _ h => st_pk 3 [1, 2, 0] (by decide) h) (fun _ h => by cases h) fun k14 s hM16 => ?_
      obtain ⟨s_11, c_12, g13⟩ := s
      have hm15 : sketch_New_l0 a0 (k14 + 1) s_11 c_12 = some p6 := hM16
      rw [sketch_New_l0] at hm15
      refine c_seq ?_
      refine c_reg ?_
      refine r_u (o_bin rfl rfl (bI_lt s_11 4)) ?_
      refine r_nil ?_
      refine x_seq ?_
      refine c_seq ?_
      refine c_if (b := decide (s_11 < 4)) rfl (fun h17 => ?_) fun h17 => ?_
      · have hm18 := ift hm15 h17
        clear hm15
        refine c_skip ?_
        refine x_seq ?_
        refine c_seq ?_
        refine c_blk ?_
        refine c_seq ?_
        refine c_reg ?_
        refine r_u (o_mv rfl) ?_
        refine r_u (o_as rfl) ?_
        refine r_nil ?_
        refine x_seq ?_
        obtain ⟨l20, hl20, hm21⟩ := bs hm18
        clear hm18
        obtain ⟨y22, hy22, hm24⟩ := bs hm21
        clear hm21
        refine cd_ex (fun w h => st_peek 2 hy22 rfl w h) fun u23 hu23 => ?_
        refine c_any mixed (effs := [3, 7]) (V := []) ?_
        refine stage_ext [(0, pt b5 0), (1, vI s_11), (2, vI a0), (4, pt b5 0), (5, pt b5 2)] rfl ?_
        refine stage rfl rfl rfl rfl [0, 0, 0, 4, 1, 17, 63, 127] [0, 1, 2, 4, 5] [3] rfl rfl rfl (qc rfl rfl (s_u (o_mv rfl)) (qc rfl rfl (s_u (o_mv rfl)) (qc rfl rfl (s_u (o_mv rfl)) (qc rfl rfl (s_u (o_nc rfl)) (qc rfl rfl (s_u (o_fa fa70_2 rfl)) qn))))) ?_ (fun h => absurd h (by decide))
        refine ec (eo_w rfl (s_w (o_mk (sz := 1) (bytes := 1) (e := 5) (en := eY) Try.underlying67 rfl rfl rfl rfl rfl rfl rfl rfl rfl hl20)) ?_) en
        rintro v19 R _ _ ⟨rfl, rfl⟩
        refine stage_st (fun _ h => st_weak h) ?_
        refine stage_st (fun _ h => st_pk 4 [1, 3, 0, 2] (by decide) h) ?_
        refine stage_ext [(6, pt b5 (2 + s_11.toNat * 1))] rfl ?_
        refine stage rfl rfl rfl rfl [0, 0, 0, 4, 1, 17, 63, 127] [0, 1, 4, 5, 6] [7] rfl rfl rfl (qc rfl rfl (s_u (o_mv rfl)) (qc rfl rfl (s_u (o_mv rfl)) (qc rfl rfl (s_u (o_nc rfl)) (qc rfl rfl (s_u (o_fa fa70_2 rfl)) (qc rfl rfl (s_u (o_ixA (sz := 1) Try.underlying68 (fun _ => by kernel_rfl) rfl rfl (gi_some hu23).1)) qn))))) ?_ (fun h => absurd h (by decide))
        refine ec (eo_w rfl (s_w (ow_if (one_o 2 rfl) fun ho => o_stA4 (A := [vI a0, vW a1]) (B := [v2, vI 0]) hy22 hu23 sc67 rfl rfl rfl ho)) ?_) en
        rintro _ R _ _ ⟨p25, p26, p27, p28, rfl, rfl, rfl⟩
        refine stage rfl rfl rfl rfl [0, 0, 0, 4, 1, 17, 63, 127] [] [] rfl rfl rfl qn en ?_
        intro _
        refine ex_sub (E' := [(0, vI a0), (6, pt b5 0), (20, vI s_11)]) ⟨rfl, rfl, rfl, trivial⟩ ?_
        refine x_blk ?_
        refine x_seq ?_
        refine c_reg ?_
        refine r_u (o_bin rfl rfl (bI_add s_11 1)) ?_
        refine r_u (o_mv rfl) ?_
        refine r_nil ?_
        exact x_lp (i64 (s_11 + 1), ls c_12 s_11 l20, (p25, p26, p27, p28)) hm24 ⟨rfl, rfl, rfl, trivial⟩ (fun _ h => st_pk 3 [0, 2, 1] (by decide) h)
      · have hm18 := iff_ hm15 h17
        clear hm15
        refine c_exit (x_exit (ks' := _) rfl ?_)
        obtain rfl := Option.some.inj hm18
        exact x_sub (K10 g13) ⟨rfl, trivial⟩ (fun _ h => st_pk 3 [0, 1, 2] (by decide) h)

def hawthornref05_New_l0 (a0 : Int) : Nat → Int → (List (List Int)) → Option (List (List Int))
  | 0, _, _ => none
  | k13 + 1, i_10, c_11 => if decide (i_10 < 4) then (mks 8 a0 (0 : Int)).bind fun l19 => (apd 24 c_11 [l19]).bind fun l23 => hawthornref05_New_l0 a0 k13 (i64 (i_10 + 1)) l23 else some c_11
def hawthornref05_New (a0 : Int) (a1 : UInt64) : Option hawthornref05_Sketch :=
  (mks 1 a0 (false : Bool)).bind fun l2 => Option.bind (hawthornref05_New_l0 a0 5 0 []) fun p5 => some (⟨a0, a1, p5, l2, 0⟩ : hawthornref05_Sketch)
theorem hawthornref05_New.ok {G R F} (a0 : Int) (a1 : UInt64) (r : hawthornref05_Sketch) (hm : hawthornref05_New a0 a1 = some r) : CO Try.prog 44 [vI a0, vW a1] G R (F)
    (Ret fun u R' L' => ∃ (p0 : hawthornref05_Sketch.G), u = .agg [vI r.Wide, vW r.Seed, p0.Rows.1, p0.Door, vI r.Added].toArray ∧ R' = R ∧ L' = OwS true 74 1 eV p0.Rows.1 p0.Rows.2 :: OwL (OwS true 3 1 eI) p0.Rows.2 r.Rows :: OwS true 4 1 eB p0.Door r.Door :: F) := by
  unfold hawthornref05_New at hm
  refine co_ofN (N := 24) Try.func44 rfl rfl ?_
  refine c_seq ?_
  refine c_reg ?_
  refine r_new (o_al ze36) fun b0 => ?_
  refine r_nil ?_
  refine x_seq ?_
  refine c_seq ?_
  refine c_reg ?_
  refine r_u (o_mv rfl) ?_
  refine r_u (o_mv rfl) ?_
  refine r_u (o_mv rfl) ?_
  obtain ⟨l2, hl2, hm3⟩ := bs hm
  clear hm
  refine r_sw (s_w (o_mk (sz := 1) (bytes := 1) (e := 4) (en := eB) Try.underlying34 rfl rfl rfl rfl rfl rfl rfl rfl rfl hl2)) ?_
  rintro v1 R _ _ ⟨rfl, rfl⟩
  refine r_u (ou_if (hd_o 0 rfl) fun hb0 => o_bld [vI a0, vW a1, .slice none 0 0, v1, vI 0] rfl (fun _ => by obtain ⟨_, _, rfl⟩ := hb0; kernel_rfl)) ?_
  refine r_new (o_al ze36) fun b4 => ?_
  refine r_u0 (ou_if (one_o 1 rfl) fun ho0 => o_stn ag36 rfl rfl rfl (al_c rfl (al_c rfl (al_c rfl (al_c ho0 (al_c rfl al_n))))) rfl rfl rfl) ?_
  refine r_nil ?_
  refine x_seq ?_
  refine c_seq ?_
  refine c_seq ?_
  refine c_reg ?_
  refine r_u (o_as rfl) ?_
  refine r_nil ?_
  refine x_seq ?_
  obtain ⟨p5, hp7, hm8⟩ := bs hm3
  refine cd_cut (fun x ks => ∀ (g6 : Value × List Value), EX x .normal ks [(4, pt b0 0), (5, pt b4 0)] R (Bk b4 36 [vI a0, vW a1, g6.1, v1, vI 0] :: Bk b0 36 [vI 0, vW 0, .slice none 0 0, .slice none 0 0, vI 0] :: OwS true 4 1 eB v1 l2 :: OwS true 74 1 eV g6.1 g6.2 :: OwL (OwS true 3 1 eI) g6.2 p5 :: F)) ?_ fun K9 => ?_
  · intro g6
    refine x_seq ?_
    refine c_seq ?_
    refine c_reg ?_
    refine r_u (o_ldn 0 [vI a0, vW a1, g6.1, v1, vI 0] ag36 rfl rfl rfl rfl) ?_
    refine rl_st (fun _ h => st_pk 5 [1, 3, 2, 0, 4] (by decide) h) ?_
    refine r_u0 (ou_if (one_o 1 rfl) fun ho0 => ou_if (one_o 2 rfl) fun ho1 => o_stn ag36 rfl rfl rfl (al_c rfl (al_c rfl (al_c ho0 (al_c ho1 (al_c rfl al_n))))) rfl rfl rfl) ?_
    refine r_nil ?_
    refine x_seq ?_
    refine c_ret ?_
    obtain rfl := Option.some.inj hm8
    exact x_d1 rfl (rv_n 0 [vI a0, vW a1, g6.1, v1, vI 0] ag36 rfl rfl rfl rfl) (fun _ h => st_pk 5 [1, 4, 2] (by decide) h) (Le.refl _) ⟨_, rfl, (⟨g6, v1⟩ : hawthornref05_Sketch.G), rfl, rfl, rfl⟩
  · refine c_blk ?_
    refine cd_st (fun _ h => st_nil (ap := true) (T := 74) (sz := 1) (en := eV) (st_lnil (own := OwS true 3 1 eI) h)) ?_
    refine cd_loopG (M := fun k13 (s : Int × List (List Int) × (Value × List Value)) => hawthornref05_New_l0 a0 k13 s.1 s.2.1 = some p5) (Ef := fun (s : Int × List (List Int) × (Value × List Value)) => [(0, vI a0), (4, pt b0 0), (5, pt b4 0), (6, vI s.1)]) (Rf := fun (s : Int × List (List Int) × (Value × List Value)) => R) (Lf := fun (s : Int × List (List Int) × (Value × List Value)) => Bk b4 36 [vI a0, vW a1, s.2.2.1, v1, vI 0] :: Bk b0 36 [vI 0, vW 0, .slice none 0 0, .slice none 0 0, vI 0] :: OwS true 4 1 eB v1 l2 :: OwS true 74 1 eV s.2.2.1 s.2.2.2 :: OwL (OwS true 3 1 eI) s.2.2.2 s.2.1 :: F) 5 (0, [], (.slice none 0 0, [])) hp7 ⟨rfl, rfl, rfl, rfl, trivial⟩ (fun _ h => st_pk 5 [2, 4, 3, 0, 1] (by decide) h) (fun _ h => by cases h) fun k13 s hM15 => ?_
    obtain ⟨i_10, c_11, g12⟩ := s
    have hm14 : hawthornref05_New_l0 a0 (k13 + 1) i_10 c_11 = some p5 := hM15
    rw [hawthornref05_New_l0] at hm14
    refine c_seq ?_
    refine c_seq ?_
    refine c_reg ?_
    refine r_u (o_mv rfl) ?_
    refine r_u (o_bin rfl rfl (bI_lt i_10 4)) ?_
    refine r_nil ?_
    refine x_seq ?_
    refine c_if (b := decide (i_10 < 4)) rfl (fun h16 => ?_) fun h16 => ?_
    · have hm17 := ift hm14 h16
      clear hm14
      refine c_skip ?_
      refine x_seq ?_
      refine c_seq ?_
      refine c_blk ?_
      obtain ⟨l19, hl19, hm20⟩ := bs hm17
      clear hm17
      obtain ⟨l23, hl23, hm25⟩ := bs hm20
      clear hm20
      refine c_any mixed (effs := [3, 4, 5, 7]) (V := []) ?_
      refine stage_ext [(0, pt b4 2), (1, g12.1), (2, vI a0)] rfl ?_
      refine stage rfl rfl rfl rfl [0, 1, 0, 4, 12, 31, 63, 127] [0, 1, 2] [3] rfl rfl rfl (qc rfl rfl (s_u (o_fa fa36_2 rfl)) (qc rfl rfl (s_u (o_ld 0 sc33 rfl rfl rfl)) (qc rfl rfl (s_u (o_mv rfl)) qn))) ?_ (fun h => absurd h (by decide))
      refine ec (eo_w rfl (s_w (o_mk (sz := 1) (bytes := 8) (e := 3) (en := eI) Try.underlying74 rfl rfl rfl rfl rfl rfl rfl rfl rfl hl19)) ?_) en
      rintro v18 R _ _ ⟨rfl, rfl⟩
      refine stage rfl rfl rfl rfl [0, 1, 0, 4, 12, 31, 63, 127] [0, 1] [4] rfl rfl rfl (qc rfl rfl (s_u (o_fa fa36_2 rfl)) (qc rfl rfl (s_u (o_ld 1 sc33 rfl rfl rfl)) qn)) ?_ (fun h => absurd h (by decide))
      refine ec (eo_w rfl (s_w (ow_if (hd_o 0 rfl) fun hb => o_bsl (en := eV) (sz := 1) (e := 74) (cs := [v18]) (r := [v18]) rfl (fun _ => by obtain ⟨_, _, rfl⟩ := hb; kernel_rfl) rfl (by decide) rfl (fun _ => rfl))) ?_) en
      rintro v21 R _ _ ⟨rfl, rfl⟩
      refine stage_st (fun _ h => st_pk 7 [1, 0, 2, 3, 4, 5, 6] (by decide) h) ?_
      refine stage_st (fun _ h => st_l1 h) ?_
      refine stage_st (fun _ h => st_pk 7 [5, 6, 1, 0, 2, 3, 4] (by decide) h) ?_
      refine stage rfl rfl rfl rfl [0, 1, 0, 4, 12, 31, 63, 127] [0, 1] [5] rfl rfl rfl (qc rfl rfl (s_u (o_fa fa36_2 rfl)) (qc rfl rfl (s_u (o_ld 4 sc33 rfl rfl rfl)) qn)) ?_ (fun h => absurd h (by decide))
      refine ec (eo_w rfl (s_w (o_apN (bytes := 24) Try.underlying33 rfl rfl rfl rfl rfl rfl rfl rfl rfl (Nat.succ_pos _) hl23)) ?_) en
      rintro v22 R _ _ ⟨hs24, rfl, rfl⟩
      refine stage_st (fun _ h => st_pk 5 [2, 0, 1, 3, 4] (by decide) h) ?_
      refine stage_ext [(6, pt b4 2)] rfl ?_
      refine stage rfl rfl rfl rfl [0, 1, 0, 4, 12, 31, 63, 127] [6] [7] rfl rfl rfl (qc rfl rfl (s_u (o_fa fa36_2 rfl)) qn) ?_ (fun h => absurd h (by decide))
      refine ec (eo_u rfl (s_u (ou_if (one_o 1 rfl) fun ho0 => o_st sc33 rfl rfl rfl ho0 rfl rfl)) (Le.refl _) ?_) en
      refine stage rfl rfl rfl rfl [0, 1, 0, 4, 12, 31, 63, 127] [] [] rfl rfl rfl qn en ?_
      intro _
      refine ex_sub (E' := [(0, vI a0), (4, pt b0 0), (5, pt b4 0), (6, vI i_10)]) ⟨rfl, rfl, rfl, rfl, trivial⟩ ?_
      refine x_blk ?_
      refine x_seq ?_
      refine c_reg ?_
      refine r_u (o_mv rfl) ?_
      refine r_u (o_bin rfl rfl (bI_add i_10 1)) ?_
      refine r_u (o_as rfl) ?_
      refine r_nil ?_
      exact x_lp (i64 (i_10 + 1), l23, (v22, hs24)) hm25 ⟨rfl, rfl, rfl, rfl, trivial⟩ (fun _ h => st_pk 5 [0, 3, 4, 1, 2] (by decide) h)
    · have hm17 := iff_ hm14 h16
      clear hm14
      refine c_exit (x_exit (ks' := _) rfl ?_)
      obtain rfl := Option.some.inj hm17
      exact x_sub (K9 g12) ⟨rfl, rfl, trivial⟩ (fun _ h => st_pk 5 [0, 1, 2, 3, 4] (by decide) h)

def hawthornlaw05_both (a0 : Int) (a1 : UInt64) : Option (Option sketch_Sketch × hawthornref05_Sketch × Bool) :=
  (sketch_New (i64 (1 + (iand a0 31))) a1).bind fun r1 => (hawthornref05_New (i64 (1 + (iand a0 31))) a1).bind fun r6 => some (r1.1, r6, (r1.2 == 0))
theorem hawthornlaw05_both.ok {G R F} (a0 : Int) (a1 : UInt64) (r : Option sketch_Sketch × hawthornref05_Sketch × Bool) (hm : hawthornlaw05_both a0 a1 = some r) : CO Try.prog 17 [vI a0, vW a1] G R (F)
    (Ret fun u R' L' => ∃ (p0 : Value × sketch_Sketch.G) (p1 : hawthornref05_Sketch.G), u = .tuple #[p0.1, .agg [vI r.2.1.Wide, vW r.2.1.Seed, p1.Rows.1, p1.Door, vI r.2.1.Added].toArray, vB r.2.2] ∧ R' = R ∧ L' = rO (sketch_Sketch.op p0.2) p0.1 r.1 :: OwS true 74 1 eV p1.Rows.1 p1.Rows.2 :: OwL (OwS true 3 1 eI) p1.Rows.2 r.2.1.Rows :: OwS true 4 1 eB p1.Door r.2.1.Door :: F) := by
  unfold hawthornlaw05_both at hm
  refine co_ofN (N := 25) Try.func17 rfl rfl ?_
  refine c_seq ?_
  refine c_reg ?_
  refine r_u (o_as rfl) ?_
  refine r_new (o_al ze36) fun b0 => ?_
  refine r_u (o_as rfl) ?_
  refine r_nil ?_
  refine x_seq ?_
  refine c_seq ?_
  refine c_reg ?_
  refine r_u (o_mv rfl) ?_
  refine r_u (o_bin rfl rfl (bI_and a0 31)) ?_
  refine r_u (o_bin rfl rfl (bI_add 1 (iand a0 31))) ?_
  refine r_u (o_as rfl) ?_
  refine r_nil ?_
  refine x_seq ?_
  refine c_seq ?_
  refine c_reg ?_
  refine r_u (o_mv rfl) ?_
  refine r_u (o_mv rfl) ?_
  obtain ⟨r1, hr1, hm5⟩ := bs hm
  clear hm
  refine r_sw (s_w (o_call ca12 rfl (sketch_New.ok (i64 (1 + (iand a0 31))) a1 r1 hr1))) ?_
  rintro _ R _ _ ⟨⟨pv3, g4⟩, rfl, rfl, rfl⟩
  refine r_u (o_mv rfl) ?_
  refine r_u (o_ext rfl rfl) ?_
  refine r_u (o_ext rfl rfl) ?_
  refine r_u (o_as rfl) ?_
  refine r_u (o_as rfl) ?_
  refine r_nil ?_
  refine x_seq ?_
  refine c_seq ?_
  refine c_reg ?_
  refine r_u (o_mv rfl) ?_
  refine r_u (o_mv rfl) ?_
  refine r_u (o_mv rfl) ?_
  obtain ⟨r6, hr6, hm10⟩ := bs hm5
  clear hm5
  refine r_sw (s_w (o_call ca44 rfl (hawthornref05_New.ok (i64 (1 + (iand a0 31))) a1 r6 hr6))) ?_
  rintro _ R _ _ ⟨v7, rfl, rfl, rfl⟩
  refine r_u (o_mv rfl) ?_
  refine r_u (o_bin rfl rfl (bI_eq r1.2 0)) ?_
  refine r_u (o_as rfl) ?_
  refine rl_st (fun _ h => st_pk 5 [4, 0, 2, 1, 3] (by decide) h) ?_
  refine r_u0 (ou_if (one_o 1 rfl) fun ho0 => ou_if (one_o 2 rfl) fun ho1 => o_stn ag36 rfl rfl rfl (al_c rfl (al_c rfl (al_c ho0 (al_c ho1 (al_c rfl al_n))))) rfl rfl rfl) ?_
  refine r_u (o_as rfl) ?_
  refine r_nil ?_
  refine x_seq ?_
  refine c_ret ?_
  obtain rfl := Option.some.inj hm10
  exact x_d3 rfl (rv_t rfl) (rv_n 0 [vI r6.Wide, vW r6.Seed, v7.Rows.1, v7.Door, vI r6.Added] ag36 rfl rfl rfl rfl) (rv_t rfl) (fun _ h => st_pk 5 [4, 1, 3, 2] (by decide) h) (Le.refl _) ⟨_, rfl, (pv3, g4), v7, rfl, rfl, rfl⟩

def bits_RotateLeft64 (a0 : UInt64) (a1 : Int) : UInt64 :=
  (shWl a0 (((toW a1) &&& 63).toNat : Int)) ||| (shWr a0 ((64 - ((toW a1) &&& 63)).toNat : Int))
theorem bits_RotateLeft64.ok {G R F} (a0 : UInt64) (a1 : Int) (r : UInt64) (hm : bits_RotateLeft64 a0 a1 = r) : CO Try.prog 86 [vW a0, vI a1] G R (F)
    (Ret fun u R' L' => u = vW r ∧ R' = R ∧ L' = F) := by
  unfold bits_RotateLeft64 at hm
  refine co_ofN (N := 17) Try.func86 rfl rfl ?_
  refine c_seq ?_
  refine c_reg ?_
  refine r_u (o_as rfl) ?_
  refine r_nil ?_
  refine x_seq ?_
  refine c_seq ?_
  refine c_reg ?_
  refine r_u (o_mv rfl) ?_
  refine r_u (o_cv rfl (cIW Try.underlying3 Try.underlying123 a1)) ?_
  refine r_u (o_bin rfl rfl (bW_and (toW a1) 63)) ?_
  refine r_u (o_as rfl) ?_
  refine r_nil ?_
  refine x_seq ?_
  refine c_seq ?_
  refine c_reg ?_
  refine r_u (o_mv rfl) ?_
  refine r_u (o_mv rfl) ?_
  refine r_u (o_bin rfl rfl (bWW_shl a0 ((toW a1) &&& 63))) ?_
  refine r_u (o_mv rfl) ?_
  refine r_u (o_mv rfl) ?_
  refine r_u (o_bin rfl rfl (bW_sub 64 ((toW a1) &&& 63))) ?_
  refine r_u (o_bin rfl rfl (bWW_shr a0 (64 - ((toW a1) &&& 63)))) ?_
  refine r_u (o_bin rfl rfl (bW_or (shWl a0 (((toW a1) &&& 63).toNat : Int)) (shWr a0 ((64 - ((toW a1) &&& 63)).toNat : Int)))) ?_
  refine r_u (o_as rfl) ?_
  refine r_nil ?_
  refine x_seq ?_
  refine c_ret ?_
  subst hm
  exact x_r1 rfl (rv_t rfl) (Le.refl _) ⟨_, rfl, rfl, rfl, rfl⟩

def mix_Mix (a0 : UInt64) : UInt64 :=
  ((bits_RotateLeft64 ((a0 ^^^ (shWr a0 ((32 : UInt64).toNat : Int))) * 11400714819323198485) 29) * 11400714819323198485) ^^^ (shWr ((bits_RotateLeft64 ((a0 ^^^ (shWr a0 ((32 : UInt64).toNat : Int))) * 11400714819323198485) 29) * 11400714819323198485) ((32 : UInt64).toNat : Int))
theorem mix_Mix.ok {G R F} (a0 : UInt64) (r : UInt64) (hm : mix_Mix a0 = r) : CO Try.prog 81 [vW a0] G R (F)
    (Ret fun u R' L' => u = vW r ∧ R' = R ∧ L' = F) := by
  unfold mix_Mix at hm
  refine co_ofN (N := 17) Try.func81 rfl rfl ?_
  refine c_seq ?_
  refine c_reg ?_
  refine r_u (o_as rfl) ?_
  refine r_nil ?_
  refine x_seq ?_
  refine c_seq ?_
  refine c_reg ?_
  refine r_u (o_mv rfl) ?_
  refine r_u (o_mv rfl) ?_
  refine r_u (o_bin rfl rfl (bWW_shr a0 32)) ?_
  refine r_u (o_bin rfl rfl (bW_xor a0 (shWr a0 ((32 : UInt64).toNat : Int)))) ?_
  refine r_u (o_as rfl) ?_
  refine r_nil ?_
  refine x_seq ?_
  refine c_seq ?_
  refine c_reg ?_
  refine r_u (o_mv rfl) ?_
  refine r_u (o_bin rfl rfl (bW_mul (a0 ^^^ (shWr a0 ((32 : UInt64).toNat : Int))) 11400714819323198485)) ?_
  refine r_u (o_as rfl) ?_
  refine r_nil ?_
  refine x_seq ?_
  refine c_seq ?_
  refine c_reg ?_
  refine r_u (o_mv rfl) ?_
  refine r_u (o_callq ca86 rfl (bits_RotateLeft64.ok ((a0 ^^^ (shWr a0 ((32 : UInt64).toNat : Int))) * 11400714819323198485) 29 _ rfl)) ?_
  refine r_u (o_as rfl) ?_
  refine r_nil ?_
  refine x_seq ?_
  refine c_seq ?_
  refine c_reg ?_
  refine r_u (o_mv rfl) ?_
  refine r_u (o_bin rfl rfl (bW_mul (bits_RotateLeft64 ((a0 ^^^ (shWr a0 ((32 : UInt64).toNat : Int))) * 11400714819323198485) 29) 11400714819323198485)) ?_
  refine r_u (o_as rfl) ?_
  refine r_nil ?_
  refine x_seq ?_
  refine c_seq ?_
  refine c_reg ?_
  refine r_u (o_mv rfl) ?_
  refine r_u (o_mv rfl) ?_
  refine r_u (o_bin rfl rfl (bWW_shr ((bits_RotateLeft64 ((a0 ^^^ (shWr a0 ((32 : UInt64).toNat : Int))) * 11400714819323198485) 29) * 11400714819323198485) 32)) ?_
  refine r_u (o_bin rfl rfl (bW_xor ((bits_RotateLeft64 ((a0 ^^^ (shWr a0 ((32 : UInt64).toNat : Int))) * 11400714819323198485) 29) * 11400714819323198485) (shWr ((bits_RotateLeft64 ((a0 ^^^ (shWr a0 ((32 : UInt64).toNat : Int))) * 11400714819323198485) 29) * 11400714819323198485) ((32 : UInt64).toNat : Int)))) ?_
  refine r_u (o_as rfl) ?_
  refine r_nil ?_
  refine x_seq ?_
  refine c_ret ?_
  subst hm
  exact x_r1 rfl (rv_t rfl) (Le.refl _) ⟨_, rfl, rfl, rfl, rfl⟩

def mix_Of_l0 (a1 : Str) : Nat → UInt64 → Int → Option (UInt64)
  | 0, _, _ => none
  | k9 + 1, h_7, s_8 => if decide (s_8 < (a1.length : Int)) then (gi a1 s_8).bind fun x14 => mix_Of_l0 a1 k9 ((h_7 ^^^ x14.toUInt64) * 1099511628211) (i64 (s_8 + 1)) else some h_7
def mix_Of (a0 : UInt64) (a1 : Str) : Option UInt64 :=
  if a1.length ≤ maxLen then Option.bind (mix_Of_l0 a1 (((a1.length : Int) - 0).toNat + 1) (14695981039346656037 ^^^ (mix_Mix a0)) 0) fun p3 => some (mix_Mix (p3 ^^^ (toW (a1.length : Int)))) else none
theorem mix_Of.ok {G R F} (a0 : UInt64) (a1 : Str) (r : UInt64) (hm : mix_Of a0 a1 = some r) : CO Try.prog 65 [vW a0, vS a1] G R (F)
    (Ret fun u R' L' => u = vW r ∧ R' = R ∧ L' = F) := by
  unfold mix_Of at hm
  refine co_ofN (N := 30) Try.func65 rfl rfl ?_
  refine c_seq ?_
  refine c_reg ?_
  refine r_u (o_as rfl) ?_
  refine r_nil ?_
  refine x_seq ?_
  refine c_seq ?_
  refine c_reg ?_
  refine r_u (o_mv rfl) ?_
  refine r_u (o_callq ca81 rfl (mix_Mix.ok a0 _ rfl)) ?_
  refine r_u (o_bin rfl rfl (bW_xor 14695981039346656037 (mix_Mix a0))) ?_
  refine r_u (o_as rfl) ?_
  refine r_nil ?_
  refine x_seq ?_
  refine c_seq ?_
  refine c_seq ?_
  refine c_reg ?_
  refine r_u (o_mv rfl) ?_
  obtain ⟨h0, hm2⟩ := ig hm
  clear hm
  refine r_sw (s_w (o_sb Try.underlying9 Try.underlying67 Try.underlying5 rfl h0)) ?_
  rintro v1 R _ _ ⟨rfl, rfl⟩
  refine r_u (o_lenO 0 Try.underlying67 rfl rfl) ?_
  refine r_u (o_mv rfl) ?_
  refine r_nil ?_
  refine x_seq ?_
  obtain ⟨p3, hp4, hm5⟩ := bs hm2
  refine cd_join (E' := [(1, vS a1), (5, vW p3)]) (L' := OwS false 5 1 eY v1 a1 :: F) ?_ fun K6 => ?_
  · refine x_seq ?_
    refine c_seq ?_
    refine c_reg ?_
    refine r_u (o_mv rfl) ?_
    refine r_u (o_mv rfl) ?_
    refine r_u (o_lenS Try.underlying9 rfl) ?_
    refine r_u (o_cv rfl (cIW Try.underlying3 Try.underlying22 (a1.length : Int))) ?_
    refine r_u (o_bin rfl rfl (bW_xor p3 (toW (a1.length : Int)))) ?_
    refine r_u (o_callq ca81 rfl (mix_Mix.ok (p3 ^^^ (toW (a1.length : Int))) _ rfl)) ?_
    refine r_u (o_as rfl) ?_
    refine r_nil ?_
    refine x_seq ?_
    refine c_ret ?_
    obtain rfl := Option.some.inj hm5
    refine ex_st (fun _ h => st_pk 1 [] (by decide) h) ?_
    exact x_r1 rfl (rv_t rfl) (Le.refl _) ⟨_, rfl, rfl, rfl, rfl⟩
  · refine c_blk ?_
    refine cd_loop (M := fun k9 (s : UInt64 × Int) => mix_Of_l0 a1 k9 s.1 s.2 = some p3) (Ef := fun (s : UInt64 × Int) => [(1, vS a1), (12, v1), (13, vI (a1.length : Int)), (5, vW s.1), (14, vI s.2)]) (Lf := fun (s : UInt64 × Int) => OwS false 5 1 eY v1 a1 :: F) (((a1.length : Int) - 0).toNat + 1) (14695981039346656037 ^^^ (mix_Mix a0), 0) hp4 ⟨rfl, rfl, rfl, rfl, rfl, trivial⟩ (fun _ h => h) (fun _ h => by cases h) fun k9 s hM11 => ?_
    obtain ⟨h_7, s_8⟩ := s
    have hm10 : mix_Of_l0 a1 (k9 + 1) h_7 s_8 = some p3 := hM11
    rw [mix_Of_l0] at hm10
    refine c_seq ?_
    refine c_reg ?_
    refine r_u (o_bin rfl rfl (bI_lt s_8 (a1.length : Int))) ?_
    refine r_nil ?_
    refine x_seq ?_
    refine c_seq ?_
    refine c_if (b := decide (s_8 < (a1.length : Int))) rfl (fun h12 => ?_) fun h12 => ?_
    · have hm13 := ift hm10 h12
      clear hm10
      refine c_skip ?_
      refine x_seq ?_
      refine c_seq ?_
      refine c_blk ?_
      refine c_seq ?_
      refine c_reg ?_
      obtain ⟨x14, hx14, hm15⟩ := bs hm13
      clear hm13
      refine r_u (o_ixO 0 Try.underlying67 (fun _ => by kernel_rfl) rfl rfl rfl hx14) ?_
      refine r_u (o_ldO0 0 sc5 rfl rfl hx14 rfl rfl) ?_
      refine r_u (o_as rfl) ?_
      refine r_nil ?_
      refine x_seq ?_
      refine c_reg ?_
      refine r_u (o_mv rfl) ?_
      refine r_u (o_mv rfl) ?_
      refine r_u (o_cv rfl (cYW Try.underlying5 Try.underlying22 x14)) ?_
      refine r_u (o_bin rfl rfl (bW_xor h_7 x14.toUInt64)) ?_
      refine r_u (o_bin rfl rfl (bW_mul (h_7 ^^^ x14.toUInt64) 1099511628211)) ?_
      refine r_u (o_as rfl) ?_
      refine r_nil ?_
      refine x_blk ?_
      refine x_seq ?_
      refine c_reg ?_
      refine r_u (o_bin rfl rfl (bI_add s_8 1)) ?_
      refine r_u (o_mv rfl) ?_
      refine r_nil ?_
      exact x_lp ((h_7 ^^^ x14.toUInt64) * 1099511628211, i64 (s_8 + 1)) hm15 ⟨rfl, rfl, rfl, rfl, rfl, trivial⟩ (fun _ h => st_pk 1 [0] (by decide) h)
    · have hm13 := iff_ hm10 h12
      clear hm10
      refine c_exit (x_exit (ks' := _) rfl ?_)
      obtain rfl := Option.some.inj hm13
      exact x_sub K6 ⟨rfl, rfl, trivial⟩ (fun _ h => st_pk 1 [0] (by decide) h)

def bits_Mul64 (a0 : UInt64) (a1 : UInt64) : UInt64 × UInt64 :=
  ((((shWr a0 ((32 : UInt64).toNat : Int)) * (shWr a1 ((32 : UInt64).toNat : Int))) + (shWr (((shWr a0 ((32 : UInt64).toNat : Int)) * (a1 &&& 4294967295)) + (shWr ((a0 &&& 4294967295) * (a1 &&& 4294967295)) ((32 : UInt64).toNat : Int))) ((32 : UInt64).toNat : Int))) + (shWr (((((shWr a0 ((32 : UInt64).toNat : Int)) * (a1 &&& 4294967295)) + (shWr ((a0 &&& 4294967295) * (a1 &&& 4294967295)) ((32 : UInt64).toNat : Int))) &&& 4294967295) + ((a0 &&& 4294967295) * (shWr a1 ((32 : UInt64).toNat : Int)))) ((32 : UInt64).toNat : Int)), a0 * a1)
theorem bits_Mul64.ok {G R F} (a0 : UInt64) (a1 : UInt64) (r : UInt64 × UInt64) (hm : bits_Mul64 a0 a1 = r) : CO Try.prog 80 [vW a0, vW a1] G R (F)
    (Ret fun u R' L' => u = .tuple #[vW r.1, vW r.2] ∧ R' = R ∧ L' = F) := by
  unfold bits_Mul64 at hm
  refine co_ofN (N := 51) Try.func80 rfl rfl ?_
  refine c_seq ?_
  refine c_reg ?_
  refine r_u (o_as rfl) ?_
  refine r_u (o_as rfl) ?_
  refine r_nil ?_
  refine x_seq ?_
  refine c_seq ?_
  refine c_reg ?_
  refine r_u (o_mv rfl) ?_
  refine r_u (o_bin rfl rfl (bW_and a0 4294967295)) ?_
  refine r_u (o_as rfl) ?_
  refine r_nil ?_
  refine x_seq ?_
  refine c_seq ?_
  refine c_reg ?_
  refine r_u (o_mv rfl) ?_
  refine r_u (o_bin rfl rfl (bWW_shr a0 32)) ?_
  refine r_u (o_as rfl) ?_
  refine r_nil ?_
  refine x_seq ?_
  refine c_seq ?_
  refine c_reg ?_
  refine r_u (o_mv rfl) ?_
  refine r_u (o_bin rfl rfl (bW_and a1 4294967295)) ?_
  refine r_u (o_as rfl) ?_
  refine r_nil ?_
  refine x_seq ?_
  refine c_seq ?_
  refine c_reg ?_
  refine r_u (o_mv rfl) ?_
  refine r_u (o_bin rfl rfl (bWW_shr a1 32)) ?_
  refine r_u (o_as rfl) ?_
  refine r_nil ?_
  refine x_seq ?_
  refine c_seq ?_
  refine c_reg ?_
  refine r_u (o_mv rfl) ?_
  refine r_u (o_mv rfl) ?_
  refine r_u (o_bin rfl rfl (bW_mul (a0 &&& 4294967295) (a1 &&& 4294967295))) ?_
  refine r_u (o_as rfl) ?_
  refine r_nil ?_
  refine x_seq ?_
  refine c_seq ?_
  refine c_reg ?_
  refine r_u (o_mv rfl) ?_
  refine r_u (o_mv rfl) ?_
  refine r_u (o_bin rfl rfl (bW_mul (shWr a0 ((32 : UInt64).toNat : Int)) (a1 &&& 4294967295))) ?_
  refine r_u (o_mv rfl) ?_
  refine r_u (o_bin rfl rfl (bWW_shr ((a0 &&& 4294967295) * (a1 &&& 4294967295)) 32)) ?_
  refine r_u (o_bin rfl rfl (bW_add ((shWr a0 ((32 : UInt64).toNat : Int)) * (a1 &&& 4294967295)) (shWr ((a0 &&& 4294967295) * (a1 &&& 4294967295)) ((32 : UInt64).toNat : Int)))) ?_
  refine r_u (o_as rfl) ?_
  refine r_nil ?_
  refine x_seq ?_
  refine c_seq ?_
  refine c_reg ?_
  refine r_u (o_mv rfl) ?_
  refine r_u (o_bin rfl rfl (bW_and (((shWr a0 ((32 : UInt64).toNat : Int)) * (a1 &&& 4294967295)) + (shWr ((a0 &&& 4294967295) * (a1 &&& 4294967295)) ((32 : UInt64).toNat : Int))) 4294967295)) ?_
  refine r_u (o_as rfl) ?_
  refine r_nil ?_
  refine x_seq ?_
  refine c_seq ?_
  refine c_reg ?_
  refine r_u (o_mv rfl) ?_
  refine r_u (o_bin rfl rfl (bWW_shr (((shWr a0 ((32 : UInt64).toNat : Int)) * (a1 &&& 4294967295)) + (shWr ((a0 &&& 4294967295) * (a1 &&& 4294967295)) ((32 : UInt64).toNat : Int))) 32)) ?_
  refine r_u (o_as rfl) ?_
  refine r_nil ?_
  refine x_seq ?_
  refine c_seq ?_
  refine c_reg ?_
  refine r_u (o_mv rfl) ?_
  refine r_u (o_mv rfl) ?_
  refine r_u (o_mv rfl) ?_
  refine r_u (o_bin rfl rfl (bW_mul (a0 &&& 4294967295) (shWr a1 ((32 : UInt64).toNat : Int)))) ?_
  refine r_u (o_bin rfl rfl (bW_add ((((shWr a0 ((32 : UInt64).toNat : Int)) * (a1 &&& 4294967295)) + (shWr ((a0 &&& 4294967295) * (a1 &&& 4294967295)) ((32 : UInt64).toNat : Int))) &&& 4294967295) ((a0 &&& 4294967295) * (shWr a1 ((32 : UInt64).toNat : Int))))) ?_
  refine r_u (o_as rfl) ?_
  refine r_nil ?_
  refine x_seq ?_
  refine c_seq ?_
  refine c_reg ?_
  refine r_u (o_mv rfl) ?_
  refine r_u (o_mv rfl) ?_
  refine r_u (o_bin rfl rfl (bW_mul (shWr a0 ((32 : UInt64).toNat : Int)) (shWr a1 ((32 : UInt64).toNat : Int)))) ?_
  refine r_u (o_mv rfl) ?_
  refine r_u (o_bin rfl rfl (bW_add ((shWr a0 ((32 : UInt64).toNat : Int)) * (shWr a1 ((32 : UInt64).toNat : Int))) (shWr (((shWr a0 ((32 : UInt64).toNat : Int)) * (a1 &&& 4294967295)) + (shWr ((a0 &&& 4294967295) * (a1 &&& 4294967295)) ((32 : UInt64).toNat : Int))) ((32 : UInt64).toNat : Int)))) ?_
  refine r_u (o_mv rfl) ?_
  refine r_u (o_bin rfl rfl (bWW_shr (((((shWr a0 ((32 : UInt64).toNat : Int)) * (a1 &&& 4294967295)) + (shWr ((a0 &&& 4294967295) * (a1 &&& 4294967295)) ((32 : UInt64).toNat : Int))) &&& 4294967295) + ((a0 &&& 4294967295) * (shWr a1 ((32 : UInt64).toNat : Int)))) 32)) ?_
  refine r_u (o_bin rfl rfl (bW_add (((shWr a0 ((32 : UInt64).toNat : Int)) * (shWr a1 ((32 : UInt64).toNat : Int))) + (shWr (((shWr a0 ((32 : UInt64).toNat : Int)) * (a1 &&& 4294967295)) + (shWr ((a0 &&& 4294967295) * (a1 &&& 4294967295)) ((32 : UInt64).toNat : Int))) ((32 : UInt64).toNat : Int))) (shWr (((((shWr a0 ((32 : UInt64).toNat : Int)) * (a1 &&& 4294967295)) + (shWr ((a0 &&& 4294967295) * (a1 &&& 4294967295)) ((32 : UInt64).toNat : Int))) &&& 4294967295) + ((a0 &&& 4294967295) * (shWr a1 ((32 : UInt64).toNat : Int)))) ((32 : UInt64).toNat : Int)))) ?_
  refine r_u (o_as rfl) ?_
  refine r_nil ?_
  refine x_seq ?_
  refine c_seq ?_
  refine c_reg ?_
  refine r_u (o_mv rfl) ?_
  refine r_u (o_mv rfl) ?_
  refine r_u (o_bin rfl rfl (bW_mul a0 a1)) ?_
  refine r_u (o_as rfl) ?_
  refine r_nil ?_
  refine x_seq ?_
  refine c_ret ?_
  subst hm
  exact x_r2 rfl (rv_t rfl) (rv_t rfl) (Le.refl _) ⟨_, rfl, rfl, rfl, rfl⟩

def mix_Place (a0 : UInt64) (a1 : Int) (a2 : Int) : Int :=
  if decide (a2 < 1) then 0 else lt (bits_Mul64 (mix_Mix (a0 + ((toW a1) * 11400714819323198485))) (toW a2)) fun r2 => i64 (r2.1.toNat : Int)
theorem mix_Place.ok {G R F} (a0 : UInt64) (a1 : Int) (a2 : Int) (r : Int) (hm : mix_Place a0 a1 a2 = r) : CO Try.prog 64 [vW a0, vI a1, vI a2] G R (F)
    (Ret fun u R' L' => u = vI r ∧ R' = R ∧ L' = F) := by
  unfold mix_Place at hm
  refine co_ofN (N := 25) Try.func64 rfl rfl ?_
  refine c_seq ?_
  refine c_reg ?_
  refine r_u (o_as rfl) ?_
  refine r_nil ?_
  refine x_seq ?_
  refine c_seq ?_
  refine c_seq ?_
  refine c_reg ?_
  refine r_u (o_mv rfl) ?_
  refine r_u (o_bin rfl rfl (bI_lt a2 1)) ?_
  refine r_nil ?_
  refine x_seq ?_
  refine c_if (b := decide (a2 < 1)) rfl (fun h0 => ?_) fun h0 => ?_
  · have hm1 := ift hm h0
    clear hm
    refine c_seq ?_
    refine c_reg ?_
    refine r_u (o_as rfl) ?_
    refine r_nil ?_
    refine x_seq ?_
    refine c_ret ?_
    subst hm1
    exact x_r1 rfl (rv_t rfl) (Le.refl _) ⟨_, rfl, rfl, rfl, rfl⟩
  · have hm1 := iff_ hm h0
    clear hm
    refine c_skip ?_
    refine x_seq ?_
    refine c_seq ?_
    refine c_reg ?_
    refine r_u (o_mv rfl) ?_
    refine r_u (o_mv rfl) ?_
    refine r_u (o_cv rfl (cIW Try.underlying3 Try.underlying22 a1)) ?_
    refine r_u (o_bin rfl rfl (bW_mul (toW a1) 11400714819323198485)) ?_
    refine r_u (o_bin rfl rfl (bW_add a0 ((toW a1) * 11400714819323198485))) ?_
    refine r_u (o_callq ca81 rfl (mix_Mix.ok (a0 + ((toW a1) * 11400714819323198485)) _ rfl)) ?_
    refine r_u (o_mv rfl) ?_
    refine r_u (o_cv rfl (cIW Try.underlying3 Try.underlying22 a2)) ?_
    obtain ⟨r2, hr2, hm3⟩ := ltx hm1
    clear hm1
    refine r_u (o_callq ca80 rfl (bits_Mul64.ok (mix_Mix (a0 + ((toW a1) * 11400714819323198485))) (toW a2) r2 hr2)) ?_
    refine r_u (o_mv rfl) ?_
    refine r_u (o_ext rfl rfl) ?_
    refine r_u (o_ext rfl rfl) ?_
    refine r_u (o_as rfl) ?_
    refine r_u (o_as rfl) ?_
    refine r_nil ?_
    refine x_seq ?_
    refine c_seq ?_
    refine c_reg ?_
    refine r_u (o_mv rfl) ?_
    refine r_u (o_cv rfl (cWI Try.underlying22 Try.underlying3 r2.1)) ?_
    refine r_u (o_as rfl) ?_
    refine r_nil ?_
    refine x_seq ?_
    refine c_ret ?_
    subst hm3
    exact x_r1 rfl (rv_t rfl) (Le.refl _) ⟨_, rfl, rfl, rfl, rfl⟩

def sketch_Sketch_place (a0 : sketch_Sketch) (a1 : Str) (a2 : Int) : Option Int :=
  (mix_Of a0.seed a1).bind fun r2 => some (mix_Place r2 a2 a0.wide)
theorem sketch_Sketch_place.ok {G R F} (b0_ : Nat) (a0 : sketch_Sketch) (g0_ : sketch_Sketch.G) (a1 : Str) (a2 : Int) (r : Int) (hm : sketch_Sketch_place a0 a1 a2 = some r) : CO Try.prog 42 [pt b0_ 0, vS a1, vI a2] G R (Bk b0_ 70 [vI a0.wide, vW a0.seed, g0_.rows.1, g0_.rows.2.1, g0_.rows.2.2.1, g0_.rows.2.2.2, g0_.door, vI a0.added] :: OwL (OwS false 5 1 eY) [g0_.rows.1, g0_.rows.2.1, g0_.rows.2.2.1, g0_.rows.2.2.2] a0.rows :: OwS true 4 1 eB g0_.door a0.door :: F)
    (Ret fun u R' L' => u = vI r ∧ R' = R ∧ L' = Bk b0_ 70 [vI a0.wide, vW a0.seed, g0_.rows.1, g0_.rows.2.1, g0_.rows.2.2.1, g0_.rows.2.2.2, g0_.door, vI a0.added] :: OwL (OwS false 5 1 eY) [g0_.rows.1, g0_.rows.2.1, g0_.rows.2.2.1, g0_.rows.2.2.2] a0.rows :: OwS true 4 1 eB g0_.door a0.door :: F) := by
  unfold sketch_Sketch_place at hm
  refine co_ofN (N := 19) Try.func42 rfl rfl ?_
  refine c_seq ?_
  refine c_reg ?_
  refine r_u (o_as rfl) ?_
  refine r_nil ?_
  refine x_seq ?_
  refine c_seq ?_
  obtain ⟨r2, hr2, hm3⟩ := bs hm
  clear hm
  refine c_any mixed (effs := []) (V := []) ?_
  refine stage_ext [(0, pt b0_ 0), (1, pt b0_ 0), (2, pt b0_ 1), (3, vW a0.seed), (4, vS a1), (5, vW r2), (6, vI a2), (7, pt b0_ 0), (8, pt b0_ 0), (9, pt b0_ 0), (10, vI a0.wide), (11, vI (mix_Place r2 a2 a0.wide)), (12, vI (mix_Place r2 a2 a0.wide))] rfl ?_
  refine stage rfl rfl rfl rfl [0, 1, 3, 7, 0, 31, 0, 0, 128, 384, 896, 2047, 4095] [0, 1, 2, 3, 4, 5, 6, 7, 8, 9, 10, 11, 12] [] rfl rfl rfl (qc rfl rfl (s_u (o_mv rfl)) (qc rfl rfl (s_u (o_nc rfl)) (qc rfl rfl (s_u (o_fa fa70_1 rfl)) (qc rfl rfl (s_u (o_ld 0 sc22 rfl rfl rfl)) (qc rfl rfl (s_u (o_mv rfl)) (qc rfl rfl (s_u (o_callq ca65 rfl (mix_Of.ok a0.seed a1 r2 hr2))) (qc rfl rfl (s_u (o_mv rfl)) (qc rfl rfl (s_u (o_mv rfl)) (qc rfl rfl (s_u (o_nc rfl)) (qc rfl rfl (s_u (o_fa fa70_0 rfl)) (qc rfl rfl (s_u (o_ld 0 sc3 rfl rfl rfl)) (qc rfl rfl (s_u (o_callq ca64 rfl (mix_Place.ok r2 a2 a0.wide _ rfl))) (qc rfl rfl (s_u (o_as rfl)) qn))))))))))))) en ?_
  intro _
  refine ex_sub (E' := [(6, vI (mix_Place r2 a2 a0.wide))]) ⟨rfl, trivial⟩ ?_
  refine x_seq ?_
  refine c_ret ?_
  obtain rfl := Option.some.inj hm3
  exact x_r1 rfl (rv_t rfl) (Le.refl _) ⟨_, rfl, rfl, rfl, rfl⟩

def sketch_Sketch_least_l0 (a0 : sketch_Sketch) (a1 : Str) : Nat → UInt8 → Int → Option (UInt8)
  | 0, _, _ => none
  | k8 + 1, n_6, s_7 => if decide (s_7 < 4) then (gi a0.rows s_7).bind fun y13 => (sketch_Sketch_place a0 a1 s_7).bind fun r16 => (gi y13 r16).bind fun x18 => sketch_Sketch_least_l0 a0 a1 k8 (if x18 < n_6 then x18 else n_6) (i64 (s_7 + 1)) else some n_6
def sketch_Sketch_least (a0 : sketch_Sketch) (a1 : Str) : Option UInt8 :=
  Option.bind (sketch_Sketch_least_l0 a0 a1 5 15 0) fun p2 => some p2
theorem sketch_Sketch_least.ok {G R F} (b0_ : Nat) (a0 : sketch_Sketch) (g0_ : sketch_Sketch.G) (a1 : Str) (r : UInt8) (hm : sketch_Sketch_least a0 a1 = some r) : CO Try.prog 43 [pt b0_ 0, vS a1] G R (Bk b0_ 70 [vI a0.wide, vW a0.seed, g0_.rows.1, g0_.rows.2.1, g0_.rows.2.2.1, g0_.rows.2.2.2, g0_.door, vI a0.added] :: OwL (OwS false 5 1 eY) [g0_.rows.1, g0_.rows.2.1, g0_.rows.2.2.1, g0_.rows.2.2.2] a0.rows :: OwS true 4 1 eB g0_.door a0.door :: F)
    (Ret fun u R' L' => u = vY r ∧ R' = R ∧ L' = Bk b0_ 70 [vI a0.wide, vW a0.seed, g0_.rows.1, g0_.rows.2.1, g0_.rows.2.2.1, g0_.rows.2.2.2, g0_.door, vI a0.added] :: OwL (OwS false 5 1 eY) [g0_.rows.1, g0_.rows.2.1, g0_.rows.2.2.1, g0_.rows.2.2.2] a0.rows :: OwS true 4 1 eB g0_.door a0.door :: F) := by
  unfold sketch_Sketch_least at hm
  refine co_ofN (N := 26) Try.func43 rfl rfl ?_
  refine c_seq ?_
  refine c_reg ?_
  refine r_u (o_as rfl) ?_
  refine r_nil ?_
  refine x_seq ?_
  refine c_seq ?_
  refine c_reg ?_
  refine r_u (o_as rfl) ?_
  refine r_nil ?_
  refine x_seq ?_
  refine c_seq ?_
  refine c_seq ?_
  refine c_reg ?_
  refine r_u (o_mv rfl) ?_
  refine r_nil ?_
  refine x_seq ?_
  obtain ⟨p2, hp3, hm4⟩ := bs hm
  refine cd_join (E' := [(5, vY p2)]) (L' := Bk b0_ 70 [vI a0.wide, vW a0.seed, g0_.rows.1, g0_.rows.2.1, g0_.rows.2.2.1, g0_.rows.2.2.2, g0_.door, vI a0.added] :: OwL (OwS false 5 1 eY) [g0_.rows.1, g0_.rows.2.1, g0_.rows.2.2.1, g0_.rows.2.2.2] a0.rows :: OwS true 4 1 eB g0_.door a0.door :: F) ?_ fun K5 => ?_
  · refine x_seq ?_
    refine c_seq ?_
    refine c_reg ?_
    refine r_u (o_mv rfl) ?_
    refine r_u (o_as rfl) ?_
    refine r_nil ?_
    refine x_seq ?_
    refine c_ret ?_
    obtain rfl := Option.some.inj hm4
    exact x_r1 rfl (rv_t rfl) (Le.refl _) ⟨_, rfl, rfl, rfl, rfl⟩
  · refine c_blk ?_
    refine cd_loop (M := fun k8 (s : UInt8 × Int) => sketch_Sketch_least_l0 a0 a1 k8 s.1 s.2 = some p2) (Ef := fun (s : UInt8 × Int) => [(0, pt b0_ 0), (1, vS a1), (5, vY s.1), (7, vI s.2)]) (Lf := fun (s : UInt8 × Int) => Bk b0_ 70 [vI a0.wide, vW a0.seed, g0_.rows.1, g0_.rows.2.1, g0_.rows.2.2.1, g0_.rows.2.2.2, g0_.door, vI a0.added] :: OwL (OwS false 5 1 eY) [g0_.rows.1, g0_.rows.2.1, g0_.rows.2.2.1, g0_.rows.2.2.2] a0.rows :: OwS true 4 1 eB g0_.door a0.door :: F) 5 (15, 0) hp3 ⟨rfl, rfl, rfl, rfl, trivial⟩ (fun _ h => h) (fun _ h => by cases h) fun k8 s hM10 => ?_
    obtain ⟨n_6, s_7⟩ := s
    have hm9 : sketch_Sketch_least_l0 a0 a1 (k8 + 1) n_6 s_7 = some p2 := hM10
    rw [sketch_Sketch_least_l0] at hm9
    refine c_seq ?_
    refine c_reg ?_
    refine r_u (o_bin rfl rfl (bI_lt s_7 4)) ?_
    refine r_nil ?_
    refine x_seq ?_
    refine c_seq ?_
    refine c_if (b := decide (s_7 < 4)) rfl (fun h11 => ?_) fun h11 => ?_
    · have hm12 := ift hm9 h11
      clear hm9
      refine c_skip ?_
      refine x_seq ?_
      refine c_seq ?_
      refine c_blk ?_
      refine c_seq ?_
      refine c_reg ?_
      refine r_u (o_mv rfl) ?_
      refine r_u (o_as rfl) ?_
      refine r_nil ?_
      refine x_seq ?_
      obtain ⟨y13, hy13, hm15⟩ := bs hm12
      clear hm12
      refine cd_ex (fun w h => st_peek 1 hy13 rfl w h) fun u14 hu14 => ?_
      obtain ⟨r16, hr16, hm17⟩ := bs hm15
      clear hm15
      obtain ⟨x18, hx18, hm19⟩ := bs hm17
      clear hm17
      refine c_any mixed (effs := [10]) (V := []) ?_
      refine stage_ext [(0, vY n_6), (1, pt b0_ 0), (2, vI s_7), (3, pt b0_ 0), (4, pt b0_ 2), (5, pt b0_ (2 + s_7.toNat * 1)), (6, u14), (7, pt b0_ 0), (8, vS a1), (9, vI s_7)] rfl ?_
      refine stage rfl rfl rfl rfl [0, 0, 0, 2, 10, 30, 62, 0, 0, 0, 896, 2046, 4094, 8191, 16383] [0, 1, 2, 3, 4, 5, 6, 7, 8, 9] [10] rfl rfl rfl (qc rfl rfl (s_u (o_mv rfl)) (qc rfl rfl (s_u (o_mv rfl)) (qc rfl rfl (s_u (o_mv rfl)) (qc rfl rfl (s_u (o_nc rfl)) (qc rfl rfl (s_u (o_fa fa70_2 rfl)) (qc rfl rfl (s_u (o_ixA (sz := 1) Try.underlying68 (fun _ => by kernel_rfl) rfl rfl (gi_some hu14).1)) (qc rfl rfl (s_u (o_ldA (o := 2) (n := 4) 0 sc67 rfl rfl hu14)) (qc rfl rfl (s_u (o_mv rfl)) (qc rfl rfl (s_u (o_mv rfl)) (qc rfl rfl (s_u (o_mv rfl)) qn)))))))))) ?_ (fun h => absurd h (by decide))
      refine ec (eo_c rfl (s_w (o_call ca42 rfl (sketch_Sketch_place.ok b0_ a0 g0_ a1 s_7 r16 hr16))) ?_) en
      refine stage_ext [(11, pt (sb u14) (so u14 + r16.toNat * 1)), (12, vY x18), (13, vY (if x18 < n_6 then x18 else n_6)), (14, vY (if x18 < n_6 then x18 else n_6))] rfl ?_
      refine stage rfl rfl rfl rfl [0, 0, 0, 2, 10, 30, 62, 0, 0, 0, 896, 2046, 4094, 8191, 16383] [0, 1, 2, 3, 4, 5, 6, 11, 12, 13, 14] [] rfl rfl rfl (qc rfl rfl (s_u (o_mv rfl)) (qc rfl rfl (s_u (o_mv rfl)) (qc rfl rfl (s_u (o_mv rfl)) (qc rfl rfl (s_u (o_nc rfl)) (qc rfl rfl (s_u (o_fa fa70_2 rfl)) (qc rfl rfl (s_u (o_ixA (sz := 1) Try.underlying68 (fun _ => by kernel_rfl) rfl rfl (gi_some hu14).1)) (qc rfl rfl (s_u (o_ldA (o := 2) (n := 4) 0 sc67 rfl rfl hu14)) (qc rfl rfl (s_u (o_ixK (kn_in 1 rfl hu14 hy13) Try.underlying67 (fun _ => by kernel_rfl) rfl rfl hx18)) (qc rfl rfl (s_u (o_ldK (kn_in 1 rfl hu14 hy13) 0 sc5 rfl hx18 rfl rfl)) (qc rfl rfl (s_u (o_minY rfl rfl)) (qc rfl rfl (s_u (o_as rfl)) qn))))))))))) en ?_
      intro _
      refine ex_sub (E' := [(0, pt b0_ 0), (1, vS a1), (5, vY (if x18 < n_6 then x18 else n_6)), (7, vI s_7)]) ⟨rfl, rfl, rfl, rfl, trivial⟩ ?_
      refine x_blk ?_
      refine x_seq ?_
      refine c_reg ?_
      refine r_u (o_bin rfl rfl (bI_add s_7 1)) ?_
      refine r_u (o_mv rfl) ?_
      refine r_nil ?_
      exact x_lp ((if x18 < n_6 then x18 else n_6), i64 (s_7 + 1)) hm19 ⟨rfl, rfl, rfl, rfl, trivial⟩ (fun _ h => st_pk 3 [0, 1, 2] (by decide) h)
    · have hm12 := iff_ hm9 h11
      clear hm9
      refine c_exit (x_exit (ks' := _) rfl ?_)
      obtain rfl := Option.some.inj hm12
      exact x_sub K5 ⟨rfl, trivial⟩ (fun _ h => st_pk 3 [0, 1, 2] (by decide) h)

def sketch_Sketch_Age_l1 (s_6 : Int) (y17 : List UInt8) : Nat → Int → (List (List UInt8)) → Option (List (List UInt8))
  | 0, _, _ => none
  | k26 + 1, s_24, c_25 => if decide (s_24 < (y17.length : Int)) then (gi c_25 s_6).bind fun y31 => (gi y31 s_24).bind fun x34 => sketch_Sketch_Age_l1 s_6 y17 k26 (i64 (s_24 + 1)) (ls c_25 s_6 (ls y31 s_24 (x34 / 2))) else some c_25
def sketch_Sketch_Age_l0  : Nat → Int → (List (List UInt8)) → Option (List (List UInt8))
  | 0, _, _ => none
  | k8 + 1, s_6, c_7 => if decide (s_6 < 4) then Option.bind ((gi c_7 s_6).bind fun y17 => Option.bind (sketch_Sketch_Age_l1 s_6 y17 (((y17.length : Int) - 0).toNat + 1) 0 c_7) fun p20 => some p20) fun p13 => sketch_Sketch_Age_l0 k8 (i64 (s_6 + 1)) p13 else some c_7
def sketch_Sketch_Age (a0 : sketch_Sketch) : Option sketch_Sketch :=
  Option.bind (sketch_Sketch_Age_l0 5 0 a0.rows) fun p2 => some (⟨a0.wide, a0.seed, p2, List.replicate a0.door.length false, i64 (a0.added.tdiv 2)⟩ : sketch_Sketch)
theorem sketch_Sketch_Age.ok {G R F} (b0_ : Nat) (a0 : sketch_Sketch) (g0_ : sketch_Sketch.G) (r : sketch_Sketch) (hm : sketch_Sketch_Age a0 = some r) : CO Try.prog 23 [pt b0_ 0] G R (Bk b0_ 70 [vI a0.wide, vW a0.seed, g0_.rows.1, g0_.rows.2.1, g0_.rows.2.2.1, g0_.rows.2.2.2, g0_.door, vI a0.added] :: OwL (OwS false 5 1 eY) [g0_.rows.1, g0_.rows.2.1, g0_.rows.2.2.1, g0_.rows.2.2.2] a0.rows :: OwS true 4 1 eB g0_.door a0.door :: F)
    (Ret fun u R' L' => u = .tuple #[] ∧ R' = R ∧ L' = Bk b0_ 70 [vI r.wide, vW r.seed, g0_.rows.1, g0_.rows.2.1, g0_.rows.2.2.1, g0_.rows.2.2.2, g0_.door, vI r.added] :: OwL (OwS false 5 1 eY) [g0_.rows.1, g0_.rows.2.1, g0_.rows.2.2.1, g0_.rows.2.2.2] r.rows :: OwS true 4 1 eB g0_.door r.door :: F) := by
  unfold sketch_Sketch_Age at hm
  refine co_ofN (N := 43) Try.func23 rfl rfl ?_
  refine c_seq ?_
  refine c_seq ?_
  refine c_reg ?_
  refine r_u (o_mv rfl) ?_
  refine r_u (o_bin rfl rfl (bP_eqp Try.underlying24)) ?_
  refine r_nil ?_
  refine x_seq ?_
  refine c_ff rfl ?_
  refine c_skip ?_
  refine x_seq ?_
  refine c_seq ?_
  refine c_seq ?_
  refine c_reg ?_
  refine r_u (o_mv rfl) ?_
  refine r_nil ?_
  refine x_seq ?_
  obtain ⟨p2, hp3, hm4⟩ := bs hm
  refine cd_join (E' := [(0, pt b0_ 0)]) (L' := Bk b0_ 70 [vI a0.wide, vW a0.seed, g0_.rows.1, g0_.rows.2.1, g0_.rows.2.2.1, g0_.rows.2.2.2, g0_.door, vI a0.added] :: OwL (OwS false 5 1 eY) [g0_.rows.1, g0_.rows.2.1, g0_.rows.2.2.1, g0_.rows.2.2.2] p2 :: OwS true 4 1 eB g0_.door a0.door :: F) ?_ fun K5 => ?_
  · refine x_seq ?_
    refine c_seq ?_
    refine c_reg ?_
    refine r_u (o_mv rfl) ?_
    refine r_u (o_nc rfl) ?_
    refine r_u (o_fa fa70_3 rfl) ?_
    refine r_u (o_ld 0 sc34 rfl rfl rfl) ?_
    refine rl_st (fun _ h => st_pk 3 [2, 0, 1] (by decide) h) ?_
    refine r_u0 (o_clr (e := 4) (z1 := false) Try.underlying34 rfl rfl rfl rfl ⟨_, rfl, rfl⟩ rfl rfl) ?_
    refine r_nil ?_
    refine x_seq ?_
    refine c_reg ?_
    refine r_u (o_mv rfl) ?_
    refine r_u (o_nc rfl) ?_
    refine r_u (o_fa fa70_4 rfl) ?_
    refine r_u (o_ld 1 sc3 rfl rfl rfl) ?_
    refine r_u (o_bin rfl rfl (bI_quo a0.added 2 (by decide))) ?_
    refine r_u (o_nc rfl) ?_
    refine r_u (o_fa fa70_4 rfl) ?_
    refine rl_st (fun _ h => st_pk 3 [1, 0, 2] (by decide) h) ?_
    refine r_u0 (o_st sc3 rfl rfl rfl rfl rfl rfl) ?_
    refine r_nil ?_
    refine x_end ?_
    obtain rfl := Option.some.inj hm4
    refine ex_st (fun _ h => st_pk 3 [0, 2, 1] (by decide) h) ?_
    exact x_r0 rfl (Le.refl _) ⟨_, rfl, rfl, rfl, rfl⟩
  · refine c_blk ?_
    refine cd_loop (M := fun k8 (s : Int × List (List UInt8)) => sketch_Sketch_Age_l0 k8 s.1 s.2 = some p2) (Ef := fun (s : Int × List (List UInt8)) => [(0, pt b0_ 0), (6, vI s.1)]) (Lf := fun (s : Int × List (List UInt8)) => Bk b0_ 70 [vI a0.wide, vW a0.seed, g0_.rows.1, g0_.rows.2.1, g0_.rows.2.2.1, g0_.rows.2.2.2, g0_.door, vI a0.added] :: OwL (OwS false 5 1 eY) [g0_.rows.1, g0_.rows.2.1, g0_.rows.2.2.1, g0_.rows.2.2.2] s.2 :: OwS true 4 1 eB g0_.door a0.door :: F) 5 (0, a0.rows) hp3 ⟨rfl, rfl, trivial⟩ (fun _ h => h) (fun _ h => by cases h) fun k8 s hM10 => ?_
    obtain ⟨s_6, c_7⟩ := s
    have hm9 : sketch_Sketch_Age_l0 (k8 + 1) s_6 c_7 = some p2 := hM10
    rw [sketch_Sketch_Age_l0] at hm9
    refine c_seq ?_
    refine c_reg ?_
    refine r_u (o_bin rfl rfl (bI_lt s_6 4)) ?_
    refine r_nil ?_
    refine x_seq ?_
    refine c_seq ?_
    refine c_if (b := decide (s_6 < 4)) rfl (fun h11 => ?_) fun h11 => ?_
    · have hm12 := ift hm9 h11
      clear hm9
      refine c_skip ?_
      refine x_seq ?_
      refine c_seq ?_
      obtain ⟨p13, hp14, hm15⟩ := bs hm12
      refine cd_join (E' := [(0, pt b0_ 0), (6, vI s_6)]) (L' := Bk b0_ 70 [vI a0.wide, vW a0.seed, g0_.rows.1, g0_.rows.2.1, g0_.rows.2.2.1, g0_.rows.2.2.2, g0_.door, vI a0.added] :: OwL (OwS false 5 1 eY) [g0_.rows.1, g0_.rows.2.1, g0_.rows.2.2.1, g0_.rows.2.2.2] p13 :: OwS true 4 1 eB g0_.door a0.door :: F) ?_ fun K16 => ?_
      · refine x_seq ?_
        refine c_reg ?_
        refine r_u (o_bin rfl rfl (bI_add s_6 1)) ?_
        refine r_u (o_mv rfl) ?_
        refine r_nil ?_
        exact x_lp (i64 (s_6 + 1), p13) hm15 ⟨rfl, rfl, trivial⟩ (fun _ h => st_pk 3 [0, 1, 2] (by decide) h)
      · refine c_blk ?_
        refine c_seq ?_
        refine c_reg ?_
        refine r_u (o_mv rfl) ?_
        refine r_u (o_as rfl) ?_
        refine r_nil ?_
        refine x_seq ?_
        refine c_seq ?_
        refine c_reg ?_
        refine r_u (o_mv rfl) ?_
        refine r_u (o_mv rfl) ?_
        refine r_u (o_nc rfl) ?_
        refine r_u (o_fa fa70_2 rfl) ?_
        obtain ⟨y17, hy17, hm19⟩ := bs hp14
        clear hp14
        refine rl_ex (fun w h => st_peek 1 hy17 rfl w h) fun u18 hu18 => ?_
        refine r_u (o_ixA (sz := 1) Try.underlying68 (fun _ => by kernel_rfl) rfl rfl (gi_some hu18).1) ?_
        refine r_u (o_ldA (o := 2) (n := 4) 0 sc67 rfl rfl hu18) ?_
        refine r_u (o_lenK (kn_in 1 rfl hu18 hy17) Try.underlying67 rfl) ?_
        refine r_u (o_mv rfl) ?_
        refine r_nil ?_
        refine x_seq ?_
        obtain ⟨p20, hp21, hm22⟩ := bs hm19
        refine cd_join (E' := [(0, pt b0_ 0), (6, vI s_6)]) (L' := Bk b0_ 70 [vI a0.wide, vW a0.seed, g0_.rows.1, g0_.rows.2.1, g0_.rows.2.2.1, g0_.rows.2.2.2, g0_.door, vI a0.added] :: OwL (OwS false 5 1 eY) [g0_.rows.1, g0_.rows.2.1, g0_.rows.2.2.1, g0_.rows.2.2.2] p20 :: OwS true 4 1 eB g0_.door a0.door :: F) ?_ fun K23 => ?_
        · refine x_blk ?_
          obtain rfl := Option.some.inj hm22
          exact x_sub K16 ⟨rfl, rfl, trivial⟩ (fun _ h => st_pk 3 [0, 1, 2] (by decide) h)
        · refine c_blk ?_
          refine cd_loop (M := fun k26 (s : Int × List (List UInt8)) => sketch_Sketch_Age_l1 s_6 y17 k26 s.1 s.2 = some p20) (Ef := fun (s : Int × List (List UInt8)) => [(0, pt b0_ 0), (2, vI s_6), (6, vI s_6), (15, vI (y17.length : Int)), (16, vI s.1)]) (Lf := fun (s : Int × List (List UInt8)) => Bk b0_ 70 [vI a0.wide, vW a0.seed, g0_.rows.1, g0_.rows.2.1, g0_.rows.2.2.1, g0_.rows.2.2.2, g0_.door, vI a0.added] :: OwL (OwS false 5 1 eY) [g0_.rows.1, g0_.rows.2.1, g0_.rows.2.2.1, g0_.rows.2.2.2] s.2 :: OwS true 4 1 eB g0_.door a0.door :: F) (((y17.length : Int) - 0).toNat + 1) (0, c_7) hp21 ⟨rfl, rfl, rfl, rfl, rfl, trivial⟩ (fun _ h => h) (fun _ h => by cases h) fun k26 s hM28 => ?_
          obtain ⟨s_24, c_25⟩ := s
          have hm27 : sketch_Sketch_Age_l1 s_6 y17 (k26 + 1) s_24 c_25 = some p20 := hM28
          rw [sketch_Sketch_Age_l1] at hm27
          refine c_seq ?_
          refine c_reg ?_
          refine r_u (o_bin rfl rfl (bI_lt s_24 (y17.length : Int))) ?_
          refine r_nil ?_
          refine x_seq ?_
          refine c_seq ?_
          refine c_if (b := decide (s_24 < (y17.length : Int))) rfl (fun h29 => ?_) fun h29 => ?_
          · have hm30 := ift hm27 h29
            clear hm27
            refine c_skip ?_
            refine x_seq ?_
            refine c_seq ?_
            refine c_blk ?_
            refine c_seq ?_
            refine c_reg ?_
            refine r_u (o_mv rfl) ?_
            refine r_u (o_as rfl) ?_
            refine r_nil ?_
            refine x_seq ?_
            refine c_reg ?_
            refine r_u (o_mv rfl) ?_
            refine r_u (o_mv rfl) ?_
            refine r_u (o_nc rfl) ?_
            refine r_u (o_fa fa70_2 rfl) ?_
            obtain ⟨y31, hy31, hm33⟩ := bs hm30
            clear hm30
            refine rl_ex (fun w h => st_peek 1 hy31 rfl w h) fun u32 hu32 => ?_
            refine r_u (o_ixA (sz := 1) Try.underlying68 (fun _ => by kernel_rfl) rfl rfl (gi_some hu32).1) ?_
            refine r_u (o_ldA (o := 2) (n := 4) 0 sc67 rfl rfl hu32) ?_
            refine r_u (o_mv rfl) ?_
            obtain ⟨x34, hx34, hm35⟩ := bs hm33
            clear hm33
            refine r_u (o_ixK (kn_in 1 rfl hu32 hy31) Try.underlying67 (fun _ => by kernel_rfl) rfl rfl hx34) ?_
            refine r_u (o_ldK (kn_in 1 rfl hu32 hy31) 0 sc5 rfl hx34 rfl rfl) ?_
            refine r_u (o_bin rfl rfl (bY_quo x34 2 (by decide))) ?_
            refine r_u (o_ixK (kn_in 1 rfl hu32 hy31) Try.underlying67 (fun _ => by kernel_rfl) rfl rfl hx34) ?_
            refine rl_st (fun _ h => st_pk 3 [1, 0, 2] (by decide) h) ?_
            refine r_u0 (o_stL (c' := x34 / 2) 0 hu32 hy31 sc5 rfl rfl rfl hx34 rfl rfl rfl) ?_
            refine r_nil ?_
            refine x_blk ?_
            refine x_seq ?_
            refine c_reg ?_
            refine r_u (o_bin rfl rfl (bI_add s_24 1)) ?_
            refine r_u (o_mv rfl) ?_
            refine r_nil ?_
            exact x_lp (i64 (s_24 + 1), ls c_25 s_6 (ls y31 s_24 (x34 / 2))) hm35 ⟨rfl, rfl, rfl, rfl, rfl, trivial⟩ (fun _ h => st_pk 3 [1, 0, 2] (by decide) h)
          · have hm30 := iff_ hm27 h29
            clear hm27
            refine c_exit (x_exit (ks' := _) rfl ?_)
            obtain rfl := Option.some.inj hm30
            exact x_sub K23 ⟨rfl, rfl, trivial⟩ (fun _ h => st_pk 3 [0, 1, 2] (by decide) h)
    · have hm12 := iff_ hm9 h11
      clear hm9
      refine c_exit (x_exit (ks' := _) rfl ?_)
      obtain rfl := Option.some.inj hm12
      exact x_sub K5 ⟨rfl, trivial⟩ (fun _ h => st_pk 3 [0, 1, 2] (by decide) h)

def sketch_Sketch_Add_l0 (a0 : sketch_Sketch) (a1 : Str) (r16 : UInt8) : Nat → Int → (List (List UInt8)) → Option (List (List UInt8))
  | 0, _, _ => none
  | k24 + 1, s_22, c_23 => if decide (s_22 < 4) then (sketch_Sketch_place (⟨a0.wide, a0.seed, c_23, a0.door, a0.added⟩ : sketch_Sketch) a1 s_22).bind fun r29 => (gi c_23 s_22).bind fun y31 => (gi y31 r29).bind fun x34 => Option.bind (if ((x34 == r16) && decide (r16 < 15)) then some (ls c_23 s_22 (ls y31 r29 (x34 + 1))) else some c_23) fun p36 => sketch_Sketch_Add_l0 a0 a1 r16 k24 (i64 (s_22 + 1)) p36 else some c_23
def sketch_Sketch_Add (a0 : sketch_Sketch) (a1 : Str) : Option sketch_Sketch :=
  (sketch_Sketch_place a0 a1 4).bind fun r2 => (gi a0.door r2).bind fun x4 => Option.bind (if !x4 then some (ls a0.door r2 true, a0.rows) else (sketch_Sketch_least a0 a1).bind fun r16 => Option.bind (sketch_Sketch_Add_l0 a0 a1 r16 5 0 a0.rows) fun p18 => some (a0.door, p18)) fun p6 => if decide ((i64 (10 * a0.wide)) ≤ (i64 (a0.added + 1))) then (sketch_Sketch_Age (⟨a0.wide, a0.seed, p6.2, p6.1, i64 (a0.added + 1)⟩ : sketch_Sketch)).bind fun r12 => some r12 else some (⟨a0.wide, a0.seed, p6.2, p6.1, i64 (a0.added + 1)⟩ : sketch_Sketch)
theorem sketch_Sketch_Add.ok {G R F} (b0_ : Nat) (a0 : sketch_Sketch) (g0_ : sketch_Sketch.G) (a1 : Str) (r : sketch_Sketch) (hm : sketch_Sketch_Add a0 a1 = some r) : CO Try.prog 14 [pt b0_ 0, vS a1] G R (Bk b0_ 70 [vI a0.wide, vW a0.seed, g0_.rows.1, g0_.rows.2.1, g0_.rows.2.2.1, g0_.rows.2.2.2, g0_.door, vI a0.added] :: OwL (OwS false 5 1 eY) [g0_.rows.1, g0_.rows.2.1, g0_.rows.2.2.1, g0_.rows.2.2.2] a0.rows :: OwS true 4 1 eB g0_.door a0.door :: F)
    (Ret fun u R' L' => u = .tuple #[] ∧ R' = R ∧ L' = Bk b0_ 70 [vI r.wide, vW r.seed, g0_.rows.1, g0_.rows.2.1, g0_.rows.2.2.1, g0_.rows.2.2.2, g0_.door, vI r.added] :: OwL (OwS false 5 1 eY) [g0_.rows.1, g0_.rows.2.1, g0_.rows.2.2.1, g0_.rows.2.2.2] r.rows :: OwS true 4 1 eB g0_.door r.door :: F) := by
  unfold sketch_Sketch_Add at hm
  refine co_ofN (N := 83) Try.func14 rfl rfl ?_
  refine c_seq ?_
  refine c_seq ?_
  refine c_reg ?_
  refine r_u (o_mv rfl) ?_
  refine r_u (o_bin rfl rfl (bP_eqp Try.underlying24)) ?_
  refine r_nil ?_
  refine x_seq ?_
  refine c_ff rfl ?_
  refine c_skip ?_
  refine x_seq ?_
  refine c_seq ?_
  refine c_seq ?_
  refine c_reg ?_
  refine r_u (o_mv rfl) ?_
  refine r_u (o_mv rfl) ?_
  obtain ⟨r2, hr2, hm3⟩ := bs hm
  clear hm
  refine r_c (s_w (o_call ca42 rfl (sketch_Sketch_place.ok b0_ a0 g0_ a1 4 r2 hr2))) ?_
  refine r_u (o_as rfl) ?_
  refine r_nil ?_
  refine x_seq ?_
  refine c_seq ?_
  refine c_reg ?_
  refine r_u (o_mv rfl) ?_
  refine r_u (o_nc rfl) ?_
  refine r_u (o_fa fa70_3 rfl) ?_
  refine r_u (o_ld 0 sc34 rfl rfl rfl) ?_
  refine r_u (o_mv rfl) ?_
  obtain ⟨x4, hx4, hm5⟩ := bs hm3
  clear hm3
  refine r_u (o_ixO 2 Try.underlying34 (fun _ => by kernel_rfl) rfl rfl rfl hx4) ?_
  refine r_u (o_ldO0 2 sc4 rfl rfl hx4 rfl rfl) ?_
  refine r_u (o_not rfl) ?_
  refine r_nil ?_
  refine x_seq ?_
  obtain ⟨p6, hp7, hm8⟩ := bs hm5
  refine cd_join (E' := [(0, pt b0_ 0)]) (L' := Bk b0_ 70 [vI a0.wide, vW a0.seed, g0_.rows.1, g0_.rows.2.1, g0_.rows.2.2.1, g0_.rows.2.2.2, g0_.door, vI a0.added] :: OwS true 4 1 eB g0_.door p6.1 :: OwL (OwS false 5 1 eY) [g0_.rows.1, g0_.rows.2.1, g0_.rows.2.2.1, g0_.rows.2.2.2] p6.2 :: F) ?_ fun K9 => ?_
  · refine x_seq ?_
    refine c_seq ?_
    refine c_reg ?_
    refine r_u (o_mv rfl) ?_
    refine r_u (o_nc rfl) ?_
    refine r_u (o_fa fa70_4 rfl) ?_
    refine r_u (o_ld 0 sc3 rfl rfl rfl) ?_
    refine r_u (o_bin rfl rfl (bI_add a0.added 1)) ?_
    refine r_u (o_nc rfl) ?_
    refine r_u (o_fa fa70_4 rfl) ?_
    refine r_u0 (o_st sc3 rfl rfl rfl rfl rfl rfl) ?_
    refine r_nil ?_
    refine x_seq ?_
    refine c_seq ?_
    refine c_any mixed (effs := []) (V := []) ?_
    refine stage_ext [(0, pt b0_ 0), (1, pt b0_ 0), (2, pt b0_ 7), (3, vI (i64 (a0.added + 1))), (4, pt b0_ 0), (5, pt b0_ 0), (6, pt b0_ 0), (7, vI a0.wide), (8, vI (i64 (10 * a0.wide))), (9, vB (decide ((i64 (10 * a0.wide)) ≤ (i64 (a0.added + 1)))))] rfl ?_
    refine stage rfl rfl rfl rfl [0, 1, 3, 7, 0, 16, 48, 112, 240, 511] [0, 1, 2, 3, 4, 5, 6, 7, 8, 9] [] rfl rfl rfl (qc rfl rfl (s_u (o_mv rfl)) (qc rfl rfl (s_u (o_nc rfl)) (qc rfl rfl (s_u (o_fa fa70_4 rfl)) (qc rfl rfl (s_u (o_ld 0 sc3 rfl rfl rfl)) (qc rfl rfl (s_u (o_mv rfl)) (qc rfl rfl (s_u (o_nc rfl)) (qc rfl rfl (s_u (o_fa fa70_0 rfl)) (qc rfl rfl (s_u (o_ld 0 sc3 rfl rfl rfl)) (qc rfl rfl (s_u (o_bin rfl rfl (bI_mul 10 a0.wide))) (qc rfl rfl (s_u (o_bin rfl rfl (bI_ge (i64 (a0.added + 1)) (i64 (10 * a0.wide))))) qn)))))))))) en ?_
    intro _
    refine ex_sub (E' := [(0, pt b0_ 0), (80, vB (decide ((i64 (10 * a0.wide)) ≤ (i64 (a0.added + 1)))))]) ⟨rfl, rfl, trivial⟩ ?_
    refine x_seq ?_
    refine c_if (b := decide ((i64 (10 * a0.wide)) ≤ (i64 (a0.added + 1)))) rfl (fun h10 => ?_) fun h10 => ?_
    · have hm11 := ift hm8 h10
      clear hm8
      refine c_reg ?_
      refine r_u (o_mv rfl) ?_
      obtain ⟨r12, hr12, hm13⟩ := bs hm11
      clear hm11
      refine rl_st (fun _ h => st_pk 3 [0, 2, 1] (by decide) h) ?_
      refine r_c (s_w (o_call ca23 rfl (sketch_Sketch_Age.ok b0_ (⟨a0.wide, a0.seed, p6.2, p6.1, i64 (a0.added + 1)⟩ : sketch_Sketch) g0_ r12 hr12))) ?_
      refine r_nil ?_
      refine x_end ?_
      obtain rfl := Option.some.inj hm13
      exact x_r0 rfl (Le.refl _) ⟨_, rfl, rfl, rfl, rfl⟩
    · have hm11 := iff_ hm8 h10
      clear hm8
      refine c_skip ?_
      refine x_end ?_
      obtain rfl := Option.some.inj hm11
      refine ex_st (fun _ h => st_pk 3 [0, 2, 1] (by decide) h) ?_
      exact x_r0 rfl (Le.refl _) ⟨_, rfl, rfl, rfl, rfl⟩
  · refine c_if (b := !x4) rfl (fun h14 => ?_) fun h14 => ?_
    · have hm15 := ift hp7 h14
      clear hp7
      refine c_reg ?_
      refine r_u (o_mv rfl) ?_
      refine r_u (o_nc rfl) ?_
      refine r_u (o_fa fa70_3 rfl) ?_
      refine r_u (o_ld 0 sc34 rfl rfl rfl) ?_
      refine r_u (o_mv rfl) ?_
      refine r_u (o_ixO 2 Try.underlying34 (fun _ => by kernel_rfl) rfl rfl rfl hx4) ?_
      refine rl_st (fun _ h => st_pk 3 [2, 0, 1] (by decide) h) ?_
      refine r_u0 (o_stO0 (c' := true) sc4 rfl rfl rfl hx4 rfl rfl rfl) ?_
      refine r_nil ?_
      obtain rfl := Option.some.inj hm15
      exact x_sub K9 ⟨rfl, trivial⟩ (fun _ h => st_pk 3 [1, 0, 2] (by decide) h)
    · have hm15 := iff_ hp7 h14
      clear hp7
      refine c_seq ?_
      refine c_reg ?_
      refine r_u (o_mv rfl) ?_
      refine r_u (o_mv rfl) ?_
      obtain ⟨r16, hr16, hm17⟩ := bs hm15
      clear hm15
      refine r_c (s_w (o_call ca43 rfl (sketch_Sketch_least.ok b0_ a0 g0_ a1 r16 hr16))) ?_
      refine r_u (o_as rfl) ?_
      refine r_nil ?_
      refine x_seq ?_
      refine c_seq ?_
      refine c_reg ?_
      refine r_u (o_mv rfl) ?_
      refine r_nil ?_
      refine x_seq ?_
      obtain ⟨p18, hp19, hm20⟩ := bs hm17
      refine cd_join (E' := [(0, pt b0_ 0)]) (L' := Bk b0_ 70 [vI a0.wide, vW a0.seed, g0_.rows.1, g0_.rows.2.1, g0_.rows.2.2.1, g0_.rows.2.2.2, g0_.door, vI a0.added] :: OwL (OwS false 5 1 eY) [g0_.rows.1, g0_.rows.2.1, g0_.rows.2.2.1, g0_.rows.2.2.2] p18 :: OwS true 4 1 eB g0_.door a0.door :: F) ?_ fun K21 => ?_
      · obtain rfl := Option.some.inj hm20
        exact x_sub K9 ⟨rfl, trivial⟩ (fun _ h => st_pk 3 [0, 2, 1] (by decide) h)
      · refine c_blk ?_
        refine cd_loop (M := fun k24 (s : Int × List (List UInt8)) => sketch_Sketch_Add_l0 a0 a1 r16 k24 s.1 s.2 = some p18) (Ef := fun (s : Int × List (List UInt8)) => [(0, pt b0_ 0), (1, vS a1), (5, vY r16), (30, vI s.1)]) (Lf := fun (s : Int × List (List UInt8)) => Bk b0_ 70 [vI a0.wide, vW a0.seed, g0_.rows.1, g0_.rows.2.1, g0_.rows.2.2.1, g0_.rows.2.2.2, g0_.door, vI a0.added] :: OwL (OwS false 5 1 eY) [g0_.rows.1, g0_.rows.2.1, g0_.rows.2.2.1, g0_.rows.2.2.2] s.2 :: OwS true 4 1 eB g0_.door a0.door :: F) 5 (0, a0.rows) hp19 ⟨rfl, rfl, rfl, rfl, trivial⟩ (fun _ h => h) (fun _ h => by cases h) fun k24 s hM26 => ?_
        obtain ⟨s_22, c_23⟩ := s
        have hm25 : sketch_Sketch_Add_l0 a0 a1 r16 (k24 + 1) s_22 c_23 = some p18 := hM26
        rw [sketch_Sketch_Add_l0] at hm25
        refine c_seq ?_
        refine c_reg ?_
        refine r_u (o_bin rfl rfl (bI_lt s_22 4)) ?_
        refine r_nil ?_
        refine x_seq ?_
        refine c_seq ?_
        refine c_if (b := decide (s_22 < 4)) rfl (fun h27 => ?_) fun h27 => ?_
        · have hm28 := ift hm25 h27
          clear hm25
          refine c_skip ?_
          refine x_seq ?_
          refine c_seq ?_
          refine c_blk ?_
          refine c_seq ?_
          refine c_reg ?_
          refine r_u (o_mv rfl) ?_
          refine r_u (o_as rfl) ?_
          refine r_nil ?_
          refine x_seq ?_
          refine c_seq ?_
          refine c_reg ?_
          refine r_u (o_mv rfl) ?_
          refine r_u (o_mv rfl) ?_
          refine r_u (o_mv rfl) ?_
          obtain ⟨r29, hr29, hm30⟩ := bs hm28
          clear hm28
          refine r_c (s_w (o_call ca42 rfl (sketch_Sketch_place.ok b0_ (⟨a0.wide, a0.seed, c_23, a0.door, a0.added⟩ : sketch_Sketch) g0_ a1 s_22 r29 hr29))) ?_
          refine r_u (o_as rfl) ?_
          refine r_nil ?_
          refine x_seq ?_
          refine c_seq ?_
          refine c_reg ?_
          refine r_u (o_mv rfl) ?_
          refine r_u (o_mv rfl) ?_
          refine r_u (o_nc rfl) ?_
          refine r_u (o_fa fa70_2 rfl) ?_
          obtain ⟨y31, hy31, hm33⟩ := bs hm30
          clear hm30
          refine rl_ex (fun w h => st_peek 1 hy31 rfl w h) fun u32 hu32 => ?_
          refine r_u (o_ixA (sz := 1) Try.underlying68 (fun _ => by kernel_rfl) rfl rfl (gi_some hu32).1) ?_
          refine r_u (o_ldA (o := 2) (n := 4) 0 sc67 rfl rfl hu32) ?_
          refine r_u (o_mv rfl) ?_
          obtain ⟨x34, hx34, hm35⟩ := bs hm33
          clear hm33
          refine r_u (o_ixK (kn_in 1 rfl hu32 hy31) Try.underlying67 (fun _ => by kernel_rfl) rfl rfl hx34) ?_
          refine r_u (o_ldK (kn_in 1 rfl hu32 hy31) 0 sc5 rfl hx34 rfl rfl) ?_
          refine r_u (o_mv rfl) ?_
          refine r_u (o_bin rfl rfl (bY_eq x34 r16)) ?_
          refine r_u (o_mv rfl) ?_
          refine r_s (s_gt rfl rfl fun g => o_mv rfl) ?_
          refine r_s (s_gt rfl rfl fun g => o_bin (evg rfl g) rfl (bY_lt r16 15)) ?_
          refine r_u (o_and rfl rfl) ?_
          refine r_nil ?_
          refine x_seq ?_
          obtain ⟨p36, hp37, hm38⟩ := bs hm35
          refine cd_join (E' := [(0, pt b0_ 0), (1, vS a1), (5, vY r16), (30, vI s_22)]) (L' := Bk b0_ 70 [vI a0.wide, vW a0.seed, g0_.rows.1, g0_.rows.2.1, g0_.rows.2.2.1, g0_.rows.2.2.2, g0_.door, vI a0.added] :: OwL (OwS false 5 1 eY) [g0_.rows.1, g0_.rows.2.1, g0_.rows.2.2.1, g0_.rows.2.2.2] p36 :: OwS true 4 1 eB g0_.door a0.door :: F) ?_ fun K39 => ?_
          · refine x_blk ?_
            refine x_seq ?_
            refine c_reg ?_
            refine r_u (o_bin rfl rfl (bI_add s_22 1)) ?_
            refine r_u (o_mv rfl) ?_
            refine r_nil ?_
            exact x_lp (i64 (s_22 + 1), p36) hm38 ⟨rfl, rfl, rfl, rfl, trivial⟩ (fun _ h => st_pk 3 [0, 1, 2] (by decide) h)
          · refine c_if (b := ((x34 == r16) && decide (r16 < 15))) rfl (fun h40 => ?_) fun h40 => ?_
            · have hm41 := ift hp37 h40
              clear hp37
              refine c_reg ?_
              refine r_u (o_mv rfl) ?_
              refine r_u (o_mv rfl) ?_
              refine r_u (o_nc rfl) ?_
              refine r_u (o_fa fa70_2 rfl) ?_
              refine r_u (o_ixA (sz := 1) Try.underlying68 (fun _ => by kernel_rfl) rfl rfl (gi_some hu32).1) ?_
              refine r_u (o_ldA (o := 2) (n := 4) 0 sc67 rfl rfl hu32) ?_
              refine r_u (o_mv rfl) ?_
              refine r_u (o_ixK (kn_in 1 rfl hu32 hy31) Try.underlying67 (fun _ => by kernel_rfl) rfl rfl hx34) ?_
              refine r_u (o_ldK (kn_in 1 rfl hu32 hy31) 0 sc5 rfl hx34 rfl rfl) ?_
              refine r_u (o_bin rfl rfl (bY_add x34 1)) ?_
              refine r_u (o_ixK (kn_in 1 rfl hu32 hy31) Try.underlying67 (fun _ => by kernel_rfl) rfl rfl hx34) ?_
              refine rl_st (fun _ h => st_pk 3 [1, 0, 2] (by decide) h) ?_
              refine r_u0 (o_stL (c' := x34 + 1) 0 hu32 hy31 sc5 rfl rfl rfl hx34 rfl rfl rfl) ?_
              refine r_nil ?_
              obtain rfl := Option.some.inj hm41
              exact x_sub K39 ⟨rfl, rfl, rfl, rfl, trivial⟩ (fun _ h => st_pk 3 [1, 0, 2] (by decide) h)
            · have hm41 := iff_ hp37 h40
              clear hp37
              refine c_skip ?_
              obtain rfl := Option.some.inj hm41
              exact x_sub K39 ⟨rfl, rfl, rfl, rfl, trivial⟩ (fun _ h => st_pk 3 [0, 1, 2] (by decide) h)
        · have hm28 := iff_ hm25 h27
          clear hm25
          refine c_exit (x_exit (ks' := _) rfl ?_)
          obtain rfl := Option.some.inj hm28
          exact x_sub K21 ⟨rfl, trivial⟩ (fun _ h => st_pk 3 [0, 1, 2] (by decide) h)

def sketch_Sketch_Seen (a0 : sketch_Sketch) (a1 : Str) : Option Int :=
  (sketch_Sketch_least a0 a1).bind fun r2 => (sketch_Sketch_place a0 a1 4).bind fun r4 => (gi a0.door r4).bind fun x6 => if x6 then some (i64 ((r2.toNat : Int) + 1)) else some (r2.toNat : Int)
theorem sketch_Sketch_Seen.ok {G R F} (b0_ : Nat) (a0 : sketch_Sketch) (g0_ : sketch_Sketch.G) (a1 : Str) (r : Int) (hm : sketch_Sketch_Seen a0 a1 = some r) : CO Try.prog 16 [pt b0_ 0, vS a1] G R (Bk b0_ 70 [vI a0.wide, vW a0.seed, g0_.rows.1, g0_.rows.2.1, g0_.rows.2.2.1, g0_.rows.2.2.2, g0_.door, vI a0.added] :: OwL (OwS false 5 1 eY) [g0_.rows.1, g0_.rows.2.1, g0_.rows.2.2.1, g0_.rows.2.2.2] a0.rows :: OwS true 4 1 eB g0_.door a0.door :: F)
    (Ret fun u R' L' => u = vI r ∧ R' = R ∧ L' = Bk b0_ 70 [vI a0.wide, vW a0.seed, g0_.rows.1, g0_.rows.2.1, g0_.rows.2.2.1, g0_.rows.2.2.2, g0_.door, vI a0.added] :: OwL (OwS false 5 1 eY) [g0_.rows.1, g0_.rows.2.1, g0_.rows.2.2.1, g0_.rows.2.2.2] a0.rows :: OwS true 4 1 eB g0_.door a0.door :: F) := by
  unfold sketch_Sketch_Seen at hm
  refine co_ofN (N := 24) Try.func16 rfl rfl ?_
  refine c_seq ?_
  refine c_reg ?_
  refine r_u (o_as rfl) ?_
  refine r_nil ?_
  refine x_seq ?_
  refine c_seq ?_
  refine c_seq ?_
  refine c_reg ?_
  refine r_u (o_mv rfl) ?_
  refine r_u (o_bin rfl rfl (bP_eqp Try.underlying24)) ?_
  refine r_nil ?_
  refine x_seq ?_
  refine c_ff rfl ?_
  refine c_skip ?_
  refine x_seq ?_
  refine c_seq ?_
  refine c_reg ?_
  refine r_u (o_mv rfl) ?_
  refine r_u (o_mv rfl) ?_
  obtain ⟨r2, hr2, hm3⟩ := bs hm
  clear hm
  refine r_c (s_w (o_call ca43 rfl (sketch_Sketch_least.ok b0_ a0 g0_ a1 r2 hr2))) ?_
  refine r_u (o_cv rfl (cYI Try.underlying5 Try.underlying3 r2)) ?_
  refine r_u (o_as rfl) ?_
  refine r_nil ?_
  refine x_seq ?_
  refine c_seq ?_
  refine c_seq ?_
  obtain ⟨r4, hr4, hm5⟩ := bs hm3
  clear hm3
  obtain ⟨x6, hx6, hm7⟩ := bs hm5
  clear hm5
  refine c_any mixed (effs := [6]) (V := []) ?_
  refine stage_ext [(0, pt b0_ 0), (1, pt b0_ 0), (2, pt b0_ 6), (3, g0_.door), (4, pt b0_ 0), (5, vS a1)] rfl ?_
  refine stage rfl rfl rfl rfl [0, 1, 3, 7, 0, 0, 48, 127, 255] [0, 1, 2, 3, 4, 5] [6] rfl rfl rfl (qc rfl rfl (s_u (o_mv rfl)) (qc rfl rfl (s_u (o_nc rfl)) (qc rfl rfl (s_u (o_fa fa70_3 rfl)) (qc rfl rfl (s_u (o_ld 0 sc34 rfl rfl rfl)) (qc rfl rfl (s_u (o_mv rfl)) (qc rfl rfl (s_u (o_mv rfl)) qn)))))) ?_ (fun h => absurd h (by decide))
  refine ec (eo_c rfl (s_w (o_call ca42 rfl (sketch_Sketch_place.ok b0_ a0 g0_ a1 4 r4 hr4))) ?_) en
  refine stage_ext [(7, pt (sb g0_.door) (so g0_.door + r4.toNat * 1)), (8, vB x6)] rfl ?_
  refine stage rfl rfl rfl rfl [0, 1, 3, 7, 0, 0, 48, 127, 255] [0, 1, 2, 3, 7, 8] [] rfl rfl rfl (qc rfl rfl (s_u (o_mv rfl)) (qc rfl rfl (s_u (o_nc rfl)) (qc rfl rfl (s_u (o_fa fa70_3 rfl)) (qc rfl rfl (s_u (o_ld 0 sc34 rfl rfl rfl)) (qc rfl rfl (s_u (o_ixO 2 Try.underlying34 (fun _ => by kernel_rfl) rfl rfl rfl hx6)) (qc rfl rfl (s_u (o_ldO0 2 sc4 rfl rfl hx6 rfl rfl)) qn)))))) en ?_
  intro _
  refine ex_sub (E' := [(5, vI (r2.toNat : Int)), (20, vB x6)]) ⟨rfl, rfl, trivial⟩ ?_
  refine x_seq ?_
  refine c_if (b := x6) rfl (fun h8 => ?_) fun h8 => ?_
  · have hm9 := ift hm7 h8
    clear hm7
    refine c_reg ?_
    refine r_u (o_mv rfl) ?_
    refine r_u (o_bin rfl rfl (bI_add (r2.toNat : Int) 1)) ?_
    refine r_u (o_as rfl) ?_
    refine r_nil ?_
    refine x_seq ?_
    refine c_seq ?_
    refine c_reg ?_
    refine r_u (o_mv rfl) ?_
    refine r_u (o_as rfl) ?_
    refine r_nil ?_
    refine x_seq ?_
    refine c_ret ?_
    obtain rfl := Option.some.inj hm9
    exact x_r1 rfl (rv_t rfl) (Le.refl _) ⟨_, rfl, rfl, rfl, rfl⟩
  · have hm9 := iff_ hm7 h8
    clear hm7
    refine c_skip ?_
    refine x_seq ?_
    refine c_seq ?_
    refine c_reg ?_
    refine r_u (o_mv rfl) ?_
    refine r_u (o_as rfl) ?_
    refine r_nil ?_
    refine x_seq ?_
    refine c_ret ?_
    obtain rfl := Option.some.inj hm9
    exact x_r1 rfl (rv_t rfl) (Le.refl _) ⟨_, rfl, rfl, rfl, rfl⟩

def sketch_Sketch_Added (a0 : sketch_Sketch) : Int :=
  a0.added
theorem sketch_Sketch_Added.ok {G R F} (b0_ : Nat) (a0 : sketch_Sketch) (g0_ : sketch_Sketch.G) (r : Int) (hm : sketch_Sketch_Added a0 = r) : CO Try.prog 20 [pt b0_ 0] G R (Bk b0_ 70 [vI a0.wide, vW a0.seed, g0_.rows.1, g0_.rows.2.1, g0_.rows.2.2.1, g0_.rows.2.2.2, g0_.door, vI a0.added] :: OwL (OwS false 5 1 eY) [g0_.rows.1, g0_.rows.2.1, g0_.rows.2.2.1, g0_.rows.2.2.2] a0.rows :: OwS true 4 1 eB g0_.door a0.door :: F)
    (Ret fun u R' L' => u = vI r ∧ R' = R ∧ L' = Bk b0_ 70 [vI a0.wide, vW a0.seed, g0_.rows.1, g0_.rows.2.1, g0_.rows.2.2.1, g0_.rows.2.2.2, g0_.door, vI a0.added] :: OwL (OwS false 5 1 eY) [g0_.rows.1, g0_.rows.2.1, g0_.rows.2.2.1, g0_.rows.2.2.2] a0.rows :: OwS true 4 1 eB g0_.door a0.door :: F) := by
  unfold sketch_Sketch_Added at hm
  refine co_ofN (N := 9) Try.func20 rfl rfl ?_
  refine c_seq ?_
  refine c_reg ?_
  refine r_u (o_as rfl) ?_
  refine r_nil ?_
  refine x_seq ?_
  refine c_seq ?_
  refine c_seq ?_
  refine c_reg ?_
  refine r_u (o_mv rfl) ?_
  refine r_u (o_bin rfl rfl (bP_eqp Try.underlying24)) ?_
  refine r_nil ?_
  refine x_seq ?_
  refine c_ff rfl ?_
  refine c_skip ?_
  refine x_seq ?_
  refine c_seq ?_
  refine c_reg ?_
  refine r_u (o_mv rfl) ?_
  refine r_u (o_nc rfl) ?_
  refine r_u (o_fa fa70_4 rfl) ?_
  refine r_u (o_ld 0 sc3 rfl rfl rfl) ?_
  refine r_u (o_as rfl) ?_
  refine r_nil ?_
  refine x_seq ?_
  refine c_ret ?_
  subst hm
  exact x_r1 rfl (rv_t rfl) (Le.refl _) ⟨_, rfl, rfl, rfl, rfl⟩

def sketch_Sketch_Wide (a0 : sketch_Sketch) : Int :=
  a0.wide
theorem sketch_Sketch_Wide.ok {G R F} (b0_ : Nat) (a0 : sketch_Sketch) (g0_ : sketch_Sketch.G) (r : Int) (hm : sketch_Sketch_Wide a0 = r) : CO Try.prog 25 [pt b0_ 0] G R (Bk b0_ 70 [vI a0.wide, vW a0.seed, g0_.rows.1, g0_.rows.2.1, g0_.rows.2.2.1, g0_.rows.2.2.2, g0_.door, vI a0.added] :: OwL (OwS false 5 1 eY) [g0_.rows.1, g0_.rows.2.1, g0_.rows.2.2.1, g0_.rows.2.2.2] a0.rows :: OwS true 4 1 eB g0_.door a0.door :: F)
    (Ret fun u R' L' => u = vI r ∧ R' = R ∧ L' = Bk b0_ 70 [vI a0.wide, vW a0.seed, g0_.rows.1, g0_.rows.2.1, g0_.rows.2.2.1, g0_.rows.2.2.2, g0_.door, vI a0.added] :: OwL (OwS false 5 1 eY) [g0_.rows.1, g0_.rows.2.1, g0_.rows.2.2.1, g0_.rows.2.2.2] a0.rows :: OwS true 4 1 eB g0_.door a0.door :: F) := by
  unfold sketch_Sketch_Wide at hm
  refine co_ofN (N := 9) Try.func25 rfl rfl ?_
  refine c_seq ?_
  refine c_reg ?_
  refine r_u (o_as rfl) ?_
  refine r_nil ?_
  refine x_seq ?_
  refine c_seq ?_
  refine c_seq ?_
  refine c_reg ?_
  refine r_u (o_mv rfl) ?_
  refine r_u (o_bin rfl rfl (bP_eqp Try.underlying24)) ?_
  refine r_nil ?_
  refine x_seq ?_
  refine c_ff rfl ?_
  refine c_skip ?_
  refine x_seq ?_
  refine c_seq ?_
  refine c_reg ?_
  refine r_u (o_mv rfl) ?_
  refine r_u (o_nc rfl) ?_
  refine r_u (o_fa fa70_0 rfl) ?_
  refine r_u (o_ld 0 sc3 rfl rfl rfl) ?_
  refine r_u (o_as rfl) ?_
  refine r_nil ?_
  refine x_seq ?_
  refine c_ret ?_
  subst hm
  exact x_r1 rfl (rv_t rfl) (Le.refl _) ⟨_, rfl, rfl, rfl, rfl⟩

end Go.Proofs.Ytlahbmoebbflbaa
