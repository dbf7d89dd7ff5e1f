import Derived.Test.YthngfieikhillaaFacts
import Derived.Test.YthngfieikhillaaHwT
set_option linter.unusedVariables false
set_option linter.unusedSectionVars false
set_option linter.unusedSimpArgs false
set_option maxRecDepth 100000
set_option maxHeartbeats 8000000
namespace Go.Proofs.Ythngfieikhillaa
open Go Go.Proofs.Ythngfieikhillaa.Hw
theorem noEsc (v : Value) (w : World) : (callFunc 130 #[v]).run Try.prog w = .ok (.value v) w := by
  rw [run_callFunc_extern Try.func130 (by kernel_rfl) (by kernel_rfl) (by kernel_rfl) (e := Extern.AbiNoEscape.same) (by kernel_rfl), Lib.run_noEscape]
  rfl
theorem infoB : ∃ j, Try.prog.info? 156 = some j ∧ j.size ≠ 0 := ⟨_, rfl, by decide⟩
theorem bld_copyCheck.ok {G R F} (b : Nat) (p v : Value) (hp : p = nl ∨ p = pt b 0) : CO Try.prog 126 [pt b 0] G R (Blk b (.cells (List.toArray [p, v]) 156 (0, 0)) :: F)
    (Ret fun u R' L' => u = .tuple #[] ∧ R' = R ∧ L' = Blk b (.cells (List.toArray [pt b 0, v]) 156 (0, 0)) :: F) := by
  obtain ⟨j, hj, hj0⟩ := infoB
  refine co_ofN (N := 20) Try.func126 rfl rfl ?_
  refine c_seq ?_
  refine c_reg ?_
  refine r_u (o_mv rfl) ?_
  refine r_u (o_nc rfl) ?_
  refine r_u (o_fa fa156_0 rfl) ?_
  refine r_u (o_ld 0 sc154 rfl rfl rfl) ?_
  rcases hp with rfl | rfl
  · refine r_u (o_bin rfl rfl (bP_eqn Try.underlying154)) ?_
    refine r_nil ?_
    refine x_seq ?_
    refine c_tt rfl ?_
    refine c_reg ?_
    refine r_u (o_mv rfl) ?_
    refine r_u (o_mv rfl) ?_
    refine r_u (o_tu 0 Try.underlying154 Try.underlying186 hj hj0 rfl rfl rfl) ?_
    refine r_u (o_same noEsc rfl) ?_
    refine r_u (o_fu 0 Try.underlying186 Try.underlying154 hj rfl rfl (by kernel_rfl)) ?_
    refine r_u (o_nc rfl) ?_
    refine r_u (o_fa fa156_0 rfl) ?_
    refine r_u0 (o_st sc154 rfl rfl rfl rfl rfl rfl) ?_
    refine r_nil ?_
    refine x_end ?_
    exact x_r0 rfl (Le.refl _) ⟨_, rfl, rfl, rfl, rfl⟩
  · refine r_u (o_bin rfl rfl (bP_eqp Try.underlying154)) ?_
    refine r_nil ?_
    refine x_seq ?_
    refine c_ff rfl ?_
    refine c_seq ?_
    refine c_reg ?_
    refine r_u (o_mv rfl) ?_
    refine r_u (o_nc rfl) ?_
    refine r_u (o_fa fa156_0 rfl) ?_
    refine r_u (o_ld 0 sc154 rfl rfl rfl) ?_
    refine r_u (o_mv rfl) ?_
    refine r_u (o_bin rfl rfl (bP_same Try.underlying154 hj)) ?_
    refine r_nil ?_
    refine x_seq ?_
    refine c_ff rfl ?_
    refine c_skip ?_
    refine x_end ?_
    exact x_r0 rfl (Le.refl _) ⟨_, rfl, rfl, rfl, rfl⟩

theorem bld_WriteByte.ok {G R F} (b : Nat) (s : Str) (c : UInt8) (r : Str) (hm : apd 1 s [c] = some r) : CO Try.prog 111 [pt b 0, vY c] G R (Bld 156 5 b s :: F)
    (Ret fun u R' L' => u = .nilIface ∧ R' = R ∧ L' = Bld 156 5 b r :: F) := by
  refine co_ofN (N := 17) Try.func111 rfl rfl ?_
  refine bld_open_cd fun p v hp hv => ?_
  refine c_seq ?_
  refine c_reg ?_
  refine r_u (o_as rfl) ?_
  refine r_nil ?_
  refine x_seq ?_
  refine c_seq ?_
  refine c_reg ?_
  refine r_u (o_mv rfl) ?_
  refine r_c (s_w (o_call ca126 rfl (bld_copyCheck.ok b p v hp))) ?_
  refine r_nil ?_
  refine x_seq ?_
  refine c_seq ?_
  refine c_reg ?_
  refine r_u (o_mv rfl) ?_
  refine r_u (o_mv rfl) ?_
  refine r_u (o_nc rfl) ?_
  refine r_u (o_fa fa156_1 rfl) ?_
  refine r_u (o_ld 0 sc45 rfl rfl rfl) ?_
  refine r_u (o_mv rfl) ?_
  refine r_sw (s_w (o_bsl (en := eY) (sz := 1) (e := 5) (cs := [vY c]) (r := [c]) rfl (fun _ => by kernel_rfl) rfl (by decide) rfl (fun _ => rfl))) ?_
  rintro v2 _ _ _ ⟨rfl, rfl⟩
  refine rl_st (fun _ h => st_pk 3 [2, 0, 1] (by decide) h) ?_
  refine r_sw (s_w (o_ap (sz := 1) (bytes := 1) 0 Try.underlying45 rfl rfl rfl rfl rfl (by decide) (by decide) (fun _ _ _ h => by simp at h; subst h; rfl) (fun _ => rfl) rfl rfl rfl rfl (Nat.succ_pos _) hm)) ?_
  rintro v3 _ _ _ ⟨rfl, rfl⟩
  refine r_u (o_nc rfl) ?_
  refine r_u (o_fa fa156_1 rfl) ?_
  refine rl_st (fun _ h => st_pk 3 [2, 0] (by decide) h) ?_
  refine r_u0 (o_stS 1 sc45 rfl rfl rfl rfl rfl rfl) ?_
  refine r_nil ?_
  refine x_seq ?_
  refine c_seq ?_
  refine c_reg ?_
  refine r_u (o_as rfl) ?_
  refine r_nil ?_
  refine x_seq ?_
  refine c_ret ?_
  refine ex_st (fun _ h => bld_close (.inr rfl) (fun e => by unfold apd at hm; split at hm <;> simp_all) h) ?_
  exact x_r1 rfl (rv_t rfl) (Le.refl _) ⟨_, rfl, rfl, rfl, rfl⟩

theorem bld_String.ok {G R F} (b : Nat) (s : Str) : CO Try.prog 112 [pt b 0] G R (Bld 156 5 b s :: F)
    (Ret fun u R' L' => u = vS s ∧ R' = R ∧ L' = F) := by
  refine co_ofN (N := 14) Try.func112 rfl rfl ?_
  refine bld_open_cd fun p v hp hv => ?_
  refine c_seq ?_
  refine c_reg ?_
  refine r_u (o_as rfl) ?_
  refine r_nil ?_
  refine x_seq ?_
  refine c_seq ?_
  by_cases hs : s = []
  · obtain rfl := hv hs
    subst hs
    refine c_any mixed (effs := []) (V := []) ?_
    refine stage_ext [(0, pt b 0), (1, pt b 0), (2, pt b 1), (3, .slice none 0 0), (4, nl), (5, pt b 0), (6, pt b 0), (7, pt b 1), (8, .slice none 0 0), (9, vI 0), (10, vS []), (11, vS [])] rfl ?_
    refine stage rfl rfl rfl rfl [0, 1, 3, 7, 15, 0, 32, 96, 224, 480, 1023, 2047] [0, 1, 2, 3, 4, 5, 6, 7, 8, 9, 10, 11] [] rfl rfl rfl (qc rfl rfl (s_u (o_mv rfl)) (qc rfl rfl (s_u (o_nc rfl)) (qc rfl rfl (s_u (o_fa fa156_1 rfl)) (qc rfl rfl (s_u (o_ld 0 sc45 rfl rfl rfl)) (qc rfl rfl (s_u (o_sdn rfl)) (qc rfl rfl (s_u (o_mv rfl)) (qc rfl rfl (s_u (o_nc rfl)) (qc rfl rfl (s_u (o_fa fa156_1 rfl)) (qc rfl rfl (s_u (o_ld 0 sc45 rfl rfl rfl)) (qc rfl rfl (s_u (o_lenN Try.underlying45 rfl)) (qc rfl rfl (s_u (o_usn rfl rfl)) (qc rfl rfl (s_u (o_as rfl)) qn)))))))))))) en ?_
    intro _
    refine ex_sub (E' := [(2, vS [])]) ⟨rfl, trivial⟩ ?_
    refine x_seq ?_
    refine c_ret ?_
    refine ex_st (fun _ h => st_pk 2 [] (by decide) h) ?_
    exact x_r1 rfl (rv_t rfl) (Le.refl _) ⟨_, rfl, rfl, rfl, rfl⟩
  · refine c_any mixed (effs := [10]) (V := []) ?_
    refine stage_ext [(0, pt b 0), (1, pt b 0), (2, pt b 1), (3, v), (4, pt (sb v) 0), (5, pt b 0), (6, pt b 0), (7, pt b 1), (8, v), (9, vI s.length)] rfl ?_
    refine stage_st (fun _ h => st_pk 2 [1, 0] (by decide) h) ?_
    refine stage rfl rfl rfl rfl [0, 1, 3, 7, 15, 0, 32, 96, 224, 480, 1023, 2047] [0, 1, 2, 3, 4, 5, 6, 7, 8, 9] [10] rfl rfl rfl (qc rfl rfl (s_u (o_mv rfl)) (qc rfl rfl (s_u (o_nc rfl)) (qc rfl rfl (s_u (o_fa fa156_1 rfl)) (qc rfl rfl (s_u (o_ld 1 sc45 rfl rfl rfl)) (qc rfl rfl (s_u (o_sd 0 rfl rfl hs)) (qc rfl rfl (s_u (o_mv rfl)) (qc rfl rfl (s_u (o_nc rfl)) (qc rfl rfl (s_u (o_fa fa156_1 rfl)) (qc rfl rfl (s_u (o_ld 1 sc45 rfl rfl rfl)) (qc rfl rfl (s_u (o_lenO 0 Try.underlying45 rfl rfl)) qn)))))))))) ?_ (fun h => absurd h (by decide))
    refine ec (eo_u rfl (s_u (o_us Try.underlying179 (by kernel_rfl) rfl rfl rfl hs)) (Le.refl _) ?_) en
    refine stage_ext [(11, vS s)] rfl ?_
    refine stage rfl rfl rfl rfl [0, 1, 3, 7, 15, 0, 32, 96, 224, 480, 1023, 2047] [11] [] rfl rfl rfl (qc rfl rfl (s_u (o_as rfl)) qn) en ?_
    intro _
    refine ex_sub (E' := [(2, vS s)]) ⟨rfl, trivial⟩ ?_
    refine x_seq ?_
    refine c_ret ?_
    refine ex_st (fun _ h => st_pk 1 [] (by decide) h) ?_
    exact x_r1 rfl (rv_t rfl) (Le.refl _) ⟨_, rfl, rfl, rfl, rfl⟩
structure ring_slot where
  key : Str
  list : Int
  prev : Int
  next : Int
  deriving DecidableEq, Inhabited
def ring_slot.c (x : ring_slot) : List _root_.Go.Value := [vS x.key, vI x.list, vI x.prev, vI x.next]
abbrev ring_slot.v (x : ring_slot) : _root_.Go.Value := .agg (ring_slot.c x).toArray
structure ring_Rings where
  lists : Int
  slots : List ring_slot
  free : List Int
  at_ : List (Str × Int)
  many : List Int
  deriving DecidableEq, Inhabited
structure ring_Rings.G where
  slots : Value
  free : Value
  at_ : Value
  many : Value

instance : Inhabited ring_Rings.G := ⟨⟨nl, nl, nl, nl⟩⟩
def ring_Rings.fl (b : Nat) (x : ring_Rings) (g : ring_Rings.G) : List HP := [Bk b 168 [vI x.lists, g.slots, g.free, g.at_, g.many], OwS true 170 4 ring_slot.c g.slots x.slots, OwS true 3 1 eI g.free x.free, OwM vS vI g.at_ x.at_, OwS true 3 1 eI g.many x.many]
def ring_Rings.op (g : ring_Rings.G) : Nat → ring_Rings → HP := fun b x => star (ring_Rings.fl b x g)
structure arc_Arc where
  most : Int
  target : Int
  r : Option ring_Rings
  deriving DecidableEq, Inhabited
structure arc_Arc.G where
  r : Value × ring_Rings.G

instance : Inhabited arc_Arc.G := ⟨⟨(nl, default)⟩⟩
def arc_Arc.fl (b : Nat) (x : arc_Arc) (g : arc_Arc.G) : List HP := [Bk b 144 [vI x.most, vI x.target, g.r.1], rO (ring_Rings.op g.r.2) g.r.1 x.r]
def arc_Arc.op (g : arc_Arc.G) : Nat → arc_Arc → HP := fun b x => star (arc_Arc.fl b x g)
structure sketch_Sketch where
  wide : Int
  seed : UInt64
  rows : List (List UInt8)
  door : List Bool
  added : Int
  deriving DecidableEq, Inhabited
structure sketch_Sketch.G where
  rows : Value × Value × Value × Value
  door : Value

instance : Inhabited sketch_Sketch.G := ⟨⟨(nl, nl, nl, nl), nl⟩⟩
def sketch_Sketch.fl (b : Nat) (x : sketch_Sketch) (g : sketch_Sketch.G) : List HP := [Bk b 175 [vI x.wide, vW x.seed, g.rows.1, g.rows.2.1, g.rows.2.2.1, g.rows.2.2.2, g.door, vI x.added], OwL (OwS false 5 1 eY) [g.rows.1, g.rows.2.1, g.rows.2.2.1, g.rows.2.2.2] x.rows, OwS true 4 1 eB g.door x.door]
def sketch_Sketch.op (g : sketch_Sketch.G) : Nat → sketch_Sketch → HP := fun b x => star (sketch_Sketch.fl b x g)
structure tiny_Tiny where
  most : Int
  s : Option sketch_Sketch
  r : Option ring_Rings
  deriving DecidableEq, Inhabited
structure tiny_Tiny.G where
  s : Value × sketch_Sketch.G
  r : Value × ring_Rings.G

instance : Inhabited tiny_Tiny.G := ⟨⟨(nl, default), (nl, default)⟩⟩
def tiny_Tiny.fl (b : Nat) (x : tiny_Tiny) (g : tiny_Tiny.G) : List HP := [Bk b 137 [vI x.most, g.s.1, g.r.1], rO (sketch_Sketch.op g.s.2) g.s.1 x.s, rO (ring_Rings.op g.r.2) g.r.1 x.r]
def tiny_Tiny.op (g : tiny_Tiny.G) : Nat → tiny_Tiny → HP := fun b x => star (tiny_Tiny.fl b x g)
structure policy_Policy where
  kind : Int
  a : Option arc_Arc
  t : Option tiny_Tiny
  deriving DecidableEq, Inhabited
structure policy_Policy.G where
  a : Value × arc_Arc.G
  t : Value × tiny_Tiny.G

instance : Inhabited policy_Policy.G := ⟨⟨(nl, default), (nl, default)⟩⟩
def policy_Policy.fl (b : Nat) (x : policy_Policy) (g : policy_Policy.G) : List HP := [Bk b 105 [vI x.kind, g.a.1, g.t.1], rO (arc_Arc.op g.a.2) g.a.1 x.a, rO (tiny_Tiny.op g.t.2) g.t.1 x.t]
def policy_Policy.op (g : policy_Policy.G) : Nat → policy_Policy → HP := fun b x => star (policy_Policy.fl b x g)
structure api_Parts where
  Window : Int
  Protected : Int
  deriving DecidableEq, Inhabited
def api_Parts.c (x : api_Parts) : List _root_.Go.Value := [vI x.Window, vI x.Protected]
abbrev api_Parts.v (x : api_Parts) : _root_.Go.Value := .agg (api_Parts.c x).toArray


def hawthornlaw09_few (a0 : Str) : Option Str :=
  if decide (80 < (a0.length : Int)) then (sl a0 0 80).bind fun s2 => some s2 else some a0
theorem hawthornlaw09_few.ok {G R F} (a0 : Str) (r : Str) (hm : hawthornlaw09_few a0 = some r) : CO Try.prog 25 [vS a0] G R (F)
    (Ret fun u R' L' => u = vS r ∧ R' = R ∧ L' = F) := by
  unfold hawthornlaw09_few at hm
  refine co_ofN (N := 9) Try.func25 rfl rfl ?_
  refine c_seq ?_
  refine c_reg ?_
  refine r_u (o_as rfl) ?_
  refine r_nil ?_
  refine x_seq ?_
  refine c_seq ?_
  refine c_seq ?_
  refine c_reg ?_
  refine r_u (o_mv rfl) ?_
  refine r_u (o_lenS Try.underlying9 rfl) ?_
  refine r_u (o_bin rfl rfl (bI_gt (a0.length : Int) 80)) ?_
  refine r_nil ?_
  refine x_seq ?_
  refine c_if (b := decide (80 < (a0.length : Int))) rfl (fun h0 => ?_) fun h0 => ?_
  · have hm1 := ift hm h0
    refine c_seq ?_
    refine c_reg ?_
    refine r_u (o_mv rfl) ?_
    obtain ⟨s2, hs2, hm3⟩ := bs hm1
    refine r_u (o_slS (i := 0) (j := 80) Try.underlying9 rfl rfl rfl hs2) ?_
    refine r_u (o_as rfl) ?_
    refine r_nil ?_
    refine x_seq ?_
    refine c_ret ?_
    obtain rfl := Option.some.inj hm3
    exact x_r1 rfl (rv_t rfl) (Le.refl _) ⟨_, rfl, rfl, rfl, rfl⟩
  · have hm1 := iff_ hm h0
    refine c_skip ?_
    refine x_seq ?_
    refine c_seq ?_
    refine c_reg ?_
    refine r_u (o_mv rfl) ?_
    refine r_u (o_as rfl) ?_
    refine r_nil ?_
    refine x_seq ?_
    refine c_ret ?_
    obtain rfl := Option.some.inj hm1
    exact x_r1 rfl (rv_t rfl) (Le.refl _) ⟨_, rfl, rfl, rfl, rfl⟩

def policy_Policy_Kind_n  : Int :=
  0
theorem policy_Policy_Kind_n.ok {G R F} (r : Int) (hm : policy_Policy_Kind_n = r) : CO Try.prog 34 [nl] G R (F)
    (Ret fun u R' L' => u = vI r ∧ R' = R ∧ L' = F) := by
  unfold policy_Policy_Kind_n at hm
  refine co_ofN (N := 9) Try.func34 rfl rfl ?_
  refine c_seq ?_
  refine c_reg ?_
  refine r_u (o_as rfl) ?_
  refine r_nil ?_
  refine x_seq ?_
  refine c_seq ?_
  refine c_seq ?_
  refine c_reg ?_
  refine r_u (o_mv rfl) ?_
  refine r_u (o_bin rfl rfl (bP_eqn Try.underlying71)) ?_
  refine r_nil ?_
  refine x_seq ?_
  refine c_tt rfl ?_
  refine c_seq ?_
  refine c_reg ?_
  refine r_u (o_as rfl) ?_
  refine r_nil ?_
  refine x_seq ?_
  refine c_ret ?_
  subst hm
  exact x_r1 rfl (rv_t rfl) (Le.refl _) ⟨_, rfl, rfl, rfl, rfl⟩

def policy_Policy_Miss_n (a1 : Str) : Option Unit :=
  if (policy_Policy_Kind_n == 2) then none else some ()
theorem policy_Policy_Miss_n.ok {G R F} (a1 : Str) (r : Unit) (hm : policy_Policy_Miss_n a1 = some r) : CO Try.prog 24 [nl, vS a1] G R (F)
    (Ret fun u R' L' => u = .tuple #[] ∧ R' = R ∧ L' = F) := by
  unfold policy_Policy_Miss_n at hm
  refine co_ofN (N := 22) Try.func24 rfl rfl ?_
  refine c_seq ?_
  refine cd_by (policy_Policy_Kind_n == 2) (fun h0 => ?_) fun h0 => ?_
  · have hm1 := ift hm h0
    refine c_reg ?_
    refine r_u (o_mv rfl) ?_
    refine r_u (o_callq ca34 rfl (policy_Policy_Kind_n.ok _ rfl)) ?_
    refine r_u (o_bin rfl rfl (bI_eq policy_Policy_Kind_n 2)) ?_
    refine r_u (o_mv rfl) ?_
    refine r_s (s_y rfl rfl h0 (o_mv rfl)) ?_
    cases hm1
  · have hm1 := iff_ hm h0
    refine c_reg ?_
    refine r_u (o_mv rfl) ?_
    refine r_u (o_callq ca34 rfl (policy_Policy_Kind_n.ok _ rfl)) ?_
    refine r_u (o_bin rfl rfl (bI_eq policy_Policy_Kind_n 2)) ?_
    refine r_u (o_mv rfl) ?_
    refine r_s (s_n rfl rfl h0) ?_
    refine r_s (s_n rfl rfl h0) ?_
    refine r_s (s_n rfl rfl h0) ?_
    refine r_s (s_n rfl rfl h0) ?_
    refine r_s (s_n rfl rfl h0) ?_
    refine r_s (s_n rfl rfl h0) ?_
    refine r_s (s_n rfl rfl h0) ?_
    refine r_u (o_pf rfl h0 rfl) ?_
    refine r_nil ?_
    refine x_seq ?_
    refine c_ff rfl ?_
    refine c_skip ?_
    refine x_end ?_
    obtain rfl := Option.some.inj hm1
    exact x_r0 rfl (Le.refl _) ⟨_, rfl, rfl, rfl, rfl⟩

def policy_Policy_Evict_n  : Option (Str × Bool) :=
  if (policy_Policy_Kind_n == 1) then none else if (policy_Policy_Kind_n == 2) then none else some ([], false)
theorem policy_Policy_Evict_n.ok {G R F} (r : Str × Bool) (hm : policy_Policy_Evict_n = some r) : CO Try.prog 26 [nl] G R (F)
    (Ret fun u R' L' => u = .tuple #[vS r.1, vB r.2] ∧ R' = R ∧ L' = F) := by
  unfold policy_Policy_Evict_n at hm
  refine co_ofN (N := 24) Try.func26 rfl rfl ?_
  refine c_seq ?_
  refine c_reg ?_
  refine r_u (o_as rfl) ?_
  refine r_u (o_as rfl) ?_
  refine r_nil ?_
  refine x_seq ?_
  refine c_seq ?_
  refine c_seq ?_
  refine c_reg ?_
  refine r_u (o_mv rfl) ?_
  refine r_u (o_callq ca34 rfl (policy_Policy_Kind_n.ok _ rfl)) ?_
  refine r_nil ?_
  refine x_seq ?_
  refine c_blk ?_
  refine c_seq ?_
  refine c_reg ?_
  refine r_u (o_bin rfl rfl (bI_eq policy_Policy_Kind_n 1)) ?_
  refine r_u (o_as rfl) ?_
  refine r_nil ?_
  refine x_seq ?_
  refine c_if (b := (policy_Policy_Kind_n == 1)) rfl (fun h0 => ?_) fun h0 => ?_
  · have hm1 := ift hm h0
    refine c_seq ?_
    refine c_reg ?_
    refine r_u (o_mv rfl) ?_
    cases hm1
  · have hm1 := iff_ hm h0
    refine c_seq ?_
    refine c_reg ?_
    refine r_u (o_bin rfl rfl (bI_eq policy_Policy_Kind_n 2)) ?_
    refine r_u (o_as rfl) ?_
    refine r_nil ?_
    refine x_seq ?_
    refine c_if (b := (policy_Policy_Kind_n == 2)) rfl (fun h2 => ?_) fun h2 => ?_
    · have hm3 := ift hm1 h2
      refine c_seq ?_
      refine c_reg ?_
      refine r_u (o_mv rfl) ?_
      cases hm3
    · have hm3 := iff_ hm1 h2
      refine c_skip ?_
      refine x_blk ?_
      refine x_seq ?_
      refine c_seq ?_
      refine c_reg ?_
      refine r_u (o_as rfl) ?_
      refine r_u (o_as rfl) ?_
      refine r_nil ?_
      refine x_seq ?_
      refine c_ret ?_
      obtain rfl := Option.some.inj hm3
      exact x_r2 rfl (rv_t rfl) (rv_t rfl) (Le.refl _) ⟨_, rfl, rfl, rfl, rfl⟩

def ring_New_l2 (a0 : Int) : Nat → Int → (List Int) → Option (List Int)
  | 0, _, _ => none
  | k28 + 1, i_25, c_26 => if decide (0 ≤ i_25) then (apd 8 c_26 [i64 (a0 + i_25)]).bind fun l35 => ring_New_l2 a0 k28 (i64 (i_25 - 1)) l35 else some c_26
def ring_New_l3 (a0 : Int) : Nat → Int → (List ring_slot) → Option (List ring_slot)
  | 0, _, _ => none
  | k39 + 1, s_37, c_38 => if decide (s_37 < a0) then (gi c_38 s_37).bind fun x44 => ring_New_l3 a0 k39 (i64 (s_37 + 1)) (ls c_38 s_37 (⟨[], s_37, s_37, s_37⟩ : ring_slot)) else some c_38
def ring_New (a0 : Int) (a1 : Int) : Option (Option ring_Rings × Int) :=
  if (((decide (a0 < 1) || decide (8 < a0)) || decide (a1 < 0)) || decide (4096 < a1)) then some (none, 1) else (mks 8 a0 (0 : Int)).bind fun l11 => (mks 40 (i64 (a0 + a1)) ((⟨[], 0, 0, 0⟩ : ring_slot) : ring_slot)).bind fun l13 => Option.bind (ring_New_l3 a0 ((a0 - 0).toNat + 1) 0 l13) fun p16 => Option.bind (ring_New_l2 a0 (((i64 (a1 - 1)) + 1).toNat + 1) (i64 (a1 - 1)) []) fun p20 => some ((some (⟨a0, p16, p20, [], l11⟩ : ring_Rings)), 0)
theorem ring_New.ok {G R F} (a0 : Int) (a1 : Int) (r : Option ring_Rings × Int) (hm : ring_New a0 a1 = some r) : CO Try.prog 101 [vI a0, vI a1] G R (F)
    (Ret fun u R' L' => ∃ (p0 : Value × ring_Rings.G), u = .tuple #[p0.1, vI r.2] ∧ R' = R ∧ L' = rO (ring_Rings.op p0.2) p0.1 r.1 :: F) := by
  unfold ring_New at hm
  refine co_ofN (N := 67) Try.func101 rfl rfl ?_
  refine c_seq ?_
  refine c_reg ?_
  refine r_u (o_as rfl) ?_
  refine r_u (o_as rfl) ?_
  refine r_nil ?_
  refine x_seq ?_
  refine c_seq ?_
  refine c_seq ?_
  refine c_reg ?_
  refine r_u (o_mv rfl) ?_
  refine r_u (o_bin rfl rfl (bI_lt a0 1)) ?_
  refine r_u (o_mv rfl) ?_
  refine r_s (s_gf rfl rfl fun g => o_mv rfl) ?_
  refine r_s (s_gf rfl rfl fun g => o_bin (evg rfl g) rfl (bI_gt a0 8)) ?_
  refine r_u (o_or rfl rfl) ?_
  refine r_u (o_mv rfl) ?_
  refine r_s (s_gf rfl rfl fun g => o_mv rfl) ?_
  refine r_s (s_gf rfl rfl fun g => o_bin (evg rfl g) rfl (bI_lt a1 0)) ?_
  refine r_u (o_or rfl rfl) ?_
  refine r_u (o_mv rfl) ?_
  refine r_s (s_gf rfl rfl fun g => o_mv rfl) ?_
  refine r_s (s_gf rfl rfl fun g => o_bin (evg rfl g) rfl (bI_gt a1 4096)) ?_
  refine r_u (o_or rfl rfl) ?_
  refine r_nil ?_
  refine x_seq ?_
  refine c_if (b := (((decide (a0 < 1) || decide (8 < a0)) || decide (a1 < 0)) || decide (4096 < a1))) rfl (fun h0 => ?_) fun h0 => ?_
  · have hm1 := ift hm h0
    refine c_seq ?_
    refine c_reg ?_
    refine r_u (o_as rfl) ?_
    refine r_u (o_as rfl) ?_
    refine r_nil ?_
    refine x_seq ?_
    refine c_ret ?_
    refine ex_st (fun _ h => st_none (f := ring_Rings.op default) h) ?_
    obtain rfl := Option.some.inj hm1
    exact x_r2 rfl (rv_t rfl) (rv_t rfl) (Le.refl _) ⟨_, rfl, (nl, default), rfl, rfl, rfl⟩
  · have hm1 := iff_ hm h0
    refine c_skip ?_
    refine x_seq ?_
    refine c_seq ?_
    obtain ⟨l11, hl11, hm12⟩ := bs hm1
    obtain ⟨l13, hl13, hm14⟩ := bs hm12
    refine c_anyF mixed (effs := [9]) (fr := [(1, fun u => OwM vS vI u []), (3, fun u => OwS true 3 1 eI u l11), (7, fun u => OwS true 170 4 ring_slot.c u l13)]) (V := []) rfl ?_
    refine stageF_ext [(0, vI a0), (2, vI a0), (4, vI a0), (5, vI a1), (6, vI (i64 (a0 + a1)))] rfl ?_
    refine stageG rfl rfl rfl rfl rfl rfl [0, 0, 0, 4, 0, 0, 48, 112, 255, 511, 1023] [0, 2, 4, 5, 6] [] (by kernel_rfl) (by kernel_rfl) (by kernel_rfl) (by kernel_rfl) (tc rfl rfl (fun A => s_u (o_mv rfl)) (tc rfl rfl (fun A => s_u (o_mv rfl)) (tc rfl rfl (fun A => s_u (o_mv rfl)) (tc rfl rfl (fun A => s_u (o_mv rfl)) (tc rfl rfl (fun A => s_u (o_bin rfl rfl (bI_add a0 a1))) tn))))) (fcons rfl (fun A => s_w (o_mm (kv := vS) (vv := vI))) (fcons rfl (fun A => s_w (o_mk (sz := 1) (bytes := 8) (e := 3) (en := eI) Try.underlying165 rfl rfl rfl rfl rfl rfl rfl rfl rfl hl11)) (fcons rfl (fun A => s_w (o_mk (sz := 4) (bytes := 40) (e := 170) (en := ring_slot.c) Try.underlying164 rfl rfl rfl rfl rfl rfl rfl rfl rfl hl13)) fnil))) etn fun bt10 => ?_
    refine stage_ext [(8, .agg [vI a0, (bt10 7), .slice none 0 0, (bt10 1), (bt10 3)].toArray)] rfl ?_
    refine stage rfl rfl rfl rfl [0, 0, 0, 4, 0, 0, 48, 112, 255, 511, 1023] [0, 8] [9] (by kernel_rfl) (by kernel_rfl) (by kernel_rfl) (qc rfl rfl (s_u (o_mv rfl)) (qc rfl rfl (s_u (ou_if (hd_m 0 rfl) fun hb0 => ou_if (hd_o 1 rfl) fun hb1 => ou_if (hd_o 2 rfl) fun hb2 => o_bld [vI a0, (bt10 7), .slice none 0 0, (bt10 1), (bt10 3)] rfl (fun _ => by obtain ⟨_, he0⟩ := hb0; rw [he0]; obtain ⟨_, _, he1⟩ := hb1; rw [he1]; obtain ⟨_, _, he2⟩ := hb2; rw [he2]; kernel_rfl))) qn)) ?_ (fun h => absurd (show false = true from h) (by decide))
    refine ec (eo_n rfl (s_w (o_bx [vI a0, (bt10 7), .slice none 0 0, (bt10 1), (bt10 3)] rfl rfl)) fun b15 => ?_) en
    refine stage_ext [(10, pt b15 0)] rfl ?_
    refine stage rfl rfl rfl rfl [0, 0, 0, 4, 0, 0, 48, 112, 255, 511, 1023] [10] [] (by kernel_rfl) (by kernel_rfl) (by kernel_rfl) (qc rfl rfl (s_u (o_as rfl)) qn) en ?_
    intro _
    refine ex_sub (E' := [(0, vI a0), (1, vI a1), (6, pt b15 0)]) ⟨rfl, rfl, rfl, trivial⟩ ?_
    refine x_seq ?_
    refine c_seq ?_
    refine c_seq ?_
    refine c_reg ?_
    refine r_u (o_mv rfl) ?_
    refine r_u (o_mv rfl) ?_
    refine r_nil ?_
    refine x_seq ?_
    obtain ⟨p16, hp17, hm18⟩ := bs hm14
    refine cd_join (E' := [(0, vI a0), (1, vI a1), (6, pt b15 0)]) (L' := Bk b15 168 [vI a0, (bt10 7), .slice none 0 0, (bt10 1), (bt10 3)] :: OwM vS vI (bt10 1) [] :: OwS true 3 1 eI (bt10 3) l11 :: OwS true 170 4 ring_slot.c (bt10 7) p16 :: F) ?_ fun K19 => ?_
    · refine x_seq ?_
      refine c_seq ?_
      refine c_seq ?_
      refine c_reg ?_
      refine r_u (o_mv rfl) ?_
      refine r_u (o_bin rfl rfl (bI_sub a1 1)) ?_
      refine r_u (o_as rfl) ?_
      refine r_nil ?_
      refine x_seq ?_
      obtain ⟨p20, hp22, hm23⟩ := bs hm18
      refine cd_cut (fun x ks => ∀ (g21 : Value), EX x .normal ks [(6, pt b15 0)] R (Bk b15 168 [vI a0, (bt10 7), g21, (bt10 1), (bt10 3)] :: OwM vS vI (bt10 1) [] :: OwS true 3 1 eI (bt10 3) l11 :: OwS true 170 4 ring_slot.c (bt10 7) p16 :: OwS true 3 1 eI g21 p20 :: F)) ?_ fun K24 => ?_
      · intro g21
        refine x_seq ?_
        refine c_seq ?_
        refine c_reg ?_
        refine r_u (o_mv rfl) ?_
        refine r_u (o_as rfl) ?_
        refine r_u (o_as rfl) ?_
        refine r_nil ?_
        refine x_seq ?_
        refine c_ret ?_
        refine ex_st (fun _ h => st_pk 5 [0, 3, 4, 1, 2] (by decide) h) ?_
        refine ex_st (fun _ h => st_some (f := ring_Rings.op (⟨(bt10 7), g21, (bt10 1), (bt10 3)⟩ : ring_Rings.G)) (a := (⟨a0, p16, p20, [], l11⟩ : ring_Rings)) (st_star_f (A := ring_Rings.fl b15 (⟨a0, p16, p20, [], l11⟩ : ring_Rings) (⟨(bt10 7), g21, (bt10 1), (bt10 3)⟩ : ring_Rings.G)) h)) ?_
        obtain rfl := Option.some.inj hm23
        exact x_r2 rfl (rv_t rfl) (rv_t rfl) (Le.refl _) ⟨_, rfl, (pt b15 0, (⟨(bt10 7), g21, (bt10 1), (bt10 3)⟩ : ring_Rings.G)), rfl, rfl, rfl⟩
      · refine c_blk ?_
        refine cd_st (fun _ h => st_nil (ap := true) (T := 3) (sz := 1) (en := eI) h) ?_
        refine cd_loopG (M := fun k28 (s : Int × List Int × Value) => ring_New_l2 a0 k28 s.1 s.2.1 = some p20) (Ef := fun (s : Int × List Int × Value) => [(0, vI a0), (6, pt b15 0), (8, vI s.1)]) (Rf := fun (s : Int × List Int × Value) => R) (Lf := fun (s : Int × List Int × Value) => Bk b15 168 [vI a0, (bt10 7), s.2.2, (bt10 1), (bt10 3)] :: OwM vS vI (bt10 1) [] :: OwS true 3 1 eI (bt10 3) l11 :: OwS true 170 4 ring_slot.c (bt10 7) p16 :: OwS true 3 1 eI s.2.2 s.2.1 :: F) (((i64 (a1 - 1)) + 1).toNat + 1) (i64 (a1 - 1), [], .slice none 0 0) hp22 ⟨rfl, rfl, rfl, trivial⟩ (fun _ h => st_pk 5 [1, 2, 3, 4, 0] (by decide) h) (fun _ h => by cases h) fun k28 s hM30 => ?_
        obtain ⟨i_25, c_26, g27⟩ := s
        have hm29 : ring_New_l2 a0 (k28 + 1) i_25 c_26 = some p20 := hM30
        rw [ring_New_l2] at hm29
        refine c_seq ?_
        refine c_seq ?_
        refine c_reg ?_
        refine r_u (o_mv rfl) ?_
        refine r_u (o_bin rfl rfl (bI_ge i_25 0)) ?_
        refine r_nil ?_
        refine x_seq ?_
        refine c_if (b := decide (0 ≤ i_25)) rfl (fun h31 => ?_) fun h31 => ?_
        · have hm32 := ift hm29 h31
          refine c_skip ?_
          refine x_seq ?_
          refine c_seq ?_
          refine c_blk ?_
          refine c_reg ?_
          refine r_u (o_mv rfl) ?_
          refine r_u (o_mv rfl) ?_
          refine r_u (o_nc rfl) ?_
          refine r_u (o_fa fa168_2 rfl) ?_
          refine r_u (o_ld 0 sc165 rfl rfl rfl) ?_
          refine r_u (o_mv rfl) ?_
          refine r_u (o_mv rfl) ?_
          refine r_u (o_bin rfl rfl (bI_add a0 i_25)) ?_
          refine r_sw (s_w (o_bsl (en := eI) (sz := 1) (e := 3) (cs := [vI (i64 (a0 + i_25))]) (r := [i64 (a0 + i_25)]) rfl (fun _ => by kernel_rfl) rfl (by decide) rfl (fun _ => rfl))) ?_
          rintro v33 R _ _ ⟨rfl, rfl⟩
          obtain ⟨l35, hl35, hm36⟩ := bs hm32
          refine rl_st (fun _ h => st_pk 6 [5, 0, 1, 2, 3, 4] (by decide) h) ?_
          refine r_sw (s_w (o_ap (sz := 1) (bytes := 8) 0 Try.underlying165 rfl rfl rfl rfl rfl (by decide) (by decide) (fun _ _ _ h => by simp at h; subst h; rfl) (fun _ => rfl) rfl rfl rfl rfl (Nat.succ_pos _) hl35)) ?_
          rintro v34 R _ _ ⟨rfl, rfl⟩
          refine r_u (o_nc rfl) ?_
          refine r_u (o_fa fa168_2 rfl) ?_
          refine rl_st (fun _ h => st_pk 6 [2, 0, 1, 3, 4, 5] (by decide) h) ?_
          refine r_u0 (ou_if (one_o 1 rfl) fun ho0 => o_st sc165 rfl rfl rfl ho0 rfl rfl) ?_
          refine r_nil ?_
          refine x_blk ?_
          refine x_seq ?_
          refine c_reg ?_
          refine r_u (o_mv rfl) ?_
          refine r_u (o_bin rfl rfl (bI_sub i_25 1)) ?_
          refine r_u (o_as rfl) ?_
          refine r_nil ?_
          exact x_lp (i64 (i_25 - 1), l35, v34) hm36 ⟨rfl, rfl, rfl, trivial⟩ (fun _ h => st_pk 6 [0, 3, 4, 5, 1] (by decide) h)
        · have hm32 := iff_ hm29 h31
          refine c_exit (x_exit (ks' := _) rfl ?_)
          obtain rfl := Option.some.inj hm32
          exact x_sub (K24 g27) ⟨rfl, trivial⟩ (fun _ h => st_pk 5 [0, 1, 2, 3, 4] (by decide) h)
    · refine c_blk ?_
      refine cd_loop (M := fun k39 (s : Int × List ring_slot) => ring_New_l3 a0 k39 s.1 s.2 = some p16) (Ef := fun (s : Int × List ring_slot) => [(0, vI a0), (1, vI a1), (6, pt b15 0), (33, vI a0), (34, vI s.1)]) (Lf := fun (s : Int × List ring_slot) => Bk b15 168 [vI a0, (bt10 7), .slice none 0 0, (bt10 1), (bt10 3)] :: OwM vS vI (bt10 1) [] :: OwS true 3 1 eI (bt10 3) l11 :: OwS true 170 4 ring_slot.c (bt10 7) s.2 :: F) ((a0 - 0).toNat + 1) (0, l13) hp17 ⟨rfl, rfl, rfl, rfl, rfl, trivial⟩ (fun _ h => h) (fun _ h => by cases h) fun k39 s hM41 => ?_
      obtain ⟨s_37, c_38⟩ := s
      have hm40 : ring_New_l3 a0 (k39 + 1) s_37 c_38 = some p16 := hM41
      rw [ring_New_l3] at hm40
      refine c_seq ?_
      refine c_reg ?_
      refine r_u (o_bin rfl rfl (bI_lt s_37 a0)) ?_
      refine r_nil ?_
      refine x_seq ?_
      refine c_seq ?_
      refine c_if (b := decide (s_37 < a0)) rfl (fun h42 => ?_) fun h42 => ?_
      · have hm43 := ift hm40 h42
        refine c_skip ?_
        refine x_seq ?_
        refine c_seq ?_
        refine c_blk ?_
        refine c_seq ?_
        refine c_reg ?_
        refine r_u (o_mv rfl) ?_
        refine r_u (o_as rfl) ?_
        refine r_nil ?_
        refine x_seq ?_
        refine c_reg ?_
        refine r_u (o_mv rfl) ?_
        refine r_u (o_nc rfl) ?_
        refine r_u (o_fa fa168_1 rfl) ?_
        refine r_u (o_ld 0 sc164 rfl rfl rfl) ?_
        refine r_u (o_mv rfl) ?_
        refine r_u (o_mv rfl) ?_
        refine r_u (o_mv rfl) ?_
        refine r_u (o_mv rfl) ?_
        refine r_u (o_bld [vS [], vI s_37, vI s_37, vI s_37] rfl (fun _ => by kernel_rfl)) ?_
        obtain ⟨x44, hx44, hm45⟩ := bs hm43
        refine r_u (o_ixO 3 Try.underlying164 (fun _ => by kernel_rfl) rfl rfl rfl hx44) ?_
        refine rl_st (fun _ h => st_pk 4 [3, 0, 1, 2] (by decide) h) ?_
        refine r_u0 (o_stnO (c' := (⟨[], s_37, s_37, s_37⟩ : ring_slot)) ag170 rfl rfl rfl hx44 rfl rfl rfl) ?_
        refine r_nil ?_
        refine x_blk ?_
        refine x_seq ?_
        refine c_reg ?_
        refine r_u (o_bin rfl rfl (bI_add s_37 1)) ?_
        refine r_u (o_mv rfl) ?_
        refine r_nil ?_
        exact x_lp (i64 (s_37 + 1), ls c_38 s_37 (⟨[], s_37, s_37, s_37⟩ : ring_slot)) hm45 ⟨rfl, rfl, rfl, rfl, rfl, trivial⟩ (fun _ h => st_pk 4 [1, 2, 3, 0] (by decide) h)
      · have hm43 := iff_ hm40 h42
        refine c_exit (x_exit (ks' := _) rfl ?_)
        obtain rfl := Option.some.inj hm43
        exact x_sub K19 ⟨rfl, rfl, rfl, trivial⟩ (fun _ h => st_pk 4 [0, 1, 2, 3] (by decide) h)

def arc_New (a0 : Int) : Option (Option arc_Arc × Int) :=
  if (decide (a0 < 1) || decide (1000 < a0)) then some (none, 1) else (ring_New 4 (i64 ((i64 (2 * a0)) + 1))).bind fun r2 => some ((some (⟨a0, 0, r2.1⟩ : arc_Arc)), r2.2)
theorem arc_New.ok {G R F} (a0 : Int) (r : Option arc_Arc × Int) (hm : arc_New a0 = some r) : CO Try.prog 57 [vI a0] G R (F)
    (Ret fun u R' L' => ∃ (p0 : Value × arc_Arc.G), u = .tuple #[p0.1, vI r.2] ∧ R' = R ∧ L' = rO (arc_Arc.op p0.2) p0.1 r.1 :: F) := by
  unfold arc_New at hm
  refine co_ofN (N := 24) Try.func57 rfl rfl ?_
  refine c_seq ?_
  refine c_reg ?_
  refine r_u (o_as rfl) ?_
  refine r_u (o_as rfl) ?_
  refine r_nil ?_
  refine x_seq ?_
  refine c_seq ?_
  refine c_seq ?_
  refine c_reg ?_
  refine r_u (o_mv rfl) ?_
  refine r_u (o_bin rfl rfl (bI_lt a0 1)) ?_
  refine r_u (o_mv rfl) ?_
  refine r_s (s_gf rfl rfl fun g => o_mv rfl) ?_
  refine r_s (s_gf rfl rfl fun g => o_bin (evg rfl g) rfl (bI_gt a0 1000)) ?_
  refine r_u (o_or rfl rfl) ?_
  refine r_nil ?_
  refine x_seq ?_
  refine c_if (b := (decide (a0 < 1) || decide (1000 < a0))) rfl (fun h0 => ?_) fun h0 => ?_
  · have hm1 := ift hm h0
    refine c_seq ?_
    refine c_reg ?_
    refine r_u (o_as rfl) ?_
    refine r_u (o_as rfl) ?_
    refine r_nil ?_
    refine x_seq ?_
    refine c_ret ?_
    refine ex_st (fun _ h => st_none (f := arc_Arc.op default) h) ?_
    obtain rfl := Option.some.inj hm1
    exact x_r2 rfl (rv_t rfl) (rv_t rfl) (Le.refl _) ⟨_, rfl, (nl, default), rfl, rfl, rfl⟩
  · have hm1 := iff_ hm h0
    refine c_skip ?_
    refine x_seq ?_
    refine c_seq ?_
    refine c_reg ?_
    refine r_u (o_mv rfl) ?_
    refine r_u (o_bin rfl rfl (bI_mul 2 a0)) ?_
    refine r_u (o_bin rfl rfl (bI_add (i64 (2 * a0)) 1)) ?_
    obtain ⟨r2, hr2, hm6⟩ := bs hm1
    refine r_sw (s_w (o_call ca101 rfl (ring_New.ok 4 (i64 ((i64 (2 * a0)) + 1)) r2 hr2))) ?_
    rintro _ R _ _ ⟨⟨pv4, g5⟩, rfl, rfl, rfl⟩
    refine r_u (o_mv rfl) ?_
    refine r_u (o_ext rfl rfl) ?_
    refine r_u (o_ext rfl rfl) ?_
    refine r_u (o_as rfl) ?_
    refine r_u (o_as rfl) ?_
    refine r_nil ?_
    refine x_seq ?_
    refine c_seq ?_
    refine c_reg ?_
    refine r_u (o_mv rfl) ?_
    refine r_u (o_mv rfl) ?_
    refine r_u (ou_if (hd_p 0 rfl) fun hb0 => o_bld [vI a0, vI 0, pv4] rfl (fun _ => by obtain ⟨_, rfl⟩ := hb0; kernel_rfl)) ?_
    refine r_new (o_bx [vI a0, vI 0, pv4] rfl rfl) fun b7 => ?_
    refine r_u (o_mv rfl) ?_
    refine r_u (o_as rfl) ?_
    refine r_u (o_as rfl) ?_
    refine r_nil ?_
    refine x_seq ?_
    refine c_ret ?_
    refine ex_st (fun _ h => st_some (f := arc_Arc.op (⟨(pv4, g5)⟩ : arc_Arc.G)) (a := (⟨a0, 0, r2.1⟩ : arc_Arc)) (st_star_f (A := arc_Arc.fl b7 (⟨a0, 0, r2.1⟩ : arc_Arc) (⟨(pv4, g5)⟩ : arc_Arc.G)) h)) ?_
    obtain rfl := Option.some.inj hm6
    exact x_r2 rfl (rv_t rfl) (rv_t rfl) (Le.refl _) ⟨_, rfl, (pt b7 0, (⟨(pv4, g5)⟩ : arc_Arc.G)), rfl, rfl, rfl⟩

def tiny_wide (a0 : Int) : Int :=
  (if 4096 < (i64 (8 * a0)) then 4096 else i64 (8 * a0))
theorem tiny_wide.ok {G R F} (a0 : Int) (r : Int) (hm : tiny_wide a0 = r) : CO Try.prog 103 [vI a0] G R (F)
    (Ret fun u R' L' => u = vI r ∧ R' = R ∧ L' = F) := by
  unfold tiny_wide at hm
  refine co_ofN (N := 6) Try.func103 rfl rfl ?_
  refine c_seq ?_
  refine c_reg ?_
  refine r_u (o_as rfl) ?_
  refine r_nil ?_
  refine x_seq ?_
  refine c_seq ?_
  refine c_reg ?_
  refine r_u (o_mv rfl) ?_
  refine r_u (o_bin rfl rfl (bI_mul 8 a0)) ?_
  refine r_u (o_minI rfl rfl) ?_
  refine r_u (o_as rfl) ?_
  refine r_nil ?_
  refine x_seq ?_
  refine c_ret ?_
  subst hm
  exact x_r1 rfl (rv_t rfl) (Le.refl _) ⟨_, rfl, rfl, rfl, rfl⟩

def sketch_New_l1 (a0 : Int) : Nat → Int → (List (List UInt8)) → Option (List (List UInt8))
  | 0, _, _ => none
  | k14 + 1, s_11, c_12 => if decide (s_11 < 4) then (mks 1 a0 (0 : UInt8)).bind fun l20 => (gi c_12 s_11).bind fun y22 => sketch_New_l1 a0 k14 (i64 (s_11 + 1)) (ls c_12 s_11 l20) else some c_12
def sketch_New (a0 : Int) (a1 : UInt64) : Option (Option sketch_Sketch × Int) :=
  if (decide (a0 < 1) || decide (4096 < a0)) then some (none, 1) else (mks 1 a0 (false : Bool)).bind fun l3 => Option.bind (sketch_New_l1 a0 5 0 [[], [], [], []]) fun p6 => some ((some (⟨a0, a1, p6, l3, 0⟩ : sketch_Sketch)), 0)
theorem sketch_New.ok {G R F} (a0 : Int) (a1 : UInt64) (r : Option sketch_Sketch × Int) (hm : sketch_New a0 a1 = some r) : CO Try.prog 102 [vI a0, vW a1] G R (F)
    (Ret fun u R' L' => ∃ (p0 : Value × sketch_Sketch.G), u = .tuple #[p0.1, vI r.2] ∧ R' = R ∧ L' = rO (sketch_Sketch.op p0.2) p0.1 r.1 :: F) := by
  unfold sketch_New at hm
  refine co_ofN (N := 32) Try.func102 rfl rfl ?_
  refine c_seq ?_
  refine c_reg ?_
  refine r_u (o_as rfl) ?_
  refine r_u (o_as rfl) ?_
  refine r_nil ?_
  refine x_seq ?_
  refine c_seq ?_
  refine c_seq ?_
  refine c_reg ?_
  refine r_u (o_mv rfl) ?_
  refine r_u (o_bin rfl rfl (bI_lt a0 1)) ?_
  refine r_u (o_mv rfl) ?_
  refine r_s (s_gf rfl rfl fun g => o_mv rfl) ?_
  refine r_s (s_gf rfl rfl fun g => o_bin (evg rfl g) rfl (bI_gt a0 4096)) ?_
  refine r_u (o_or rfl rfl) ?_
  refine r_nil ?_
  refine x_seq ?_
  refine c_if (b := (decide (a0 < 1) || decide (4096 < a0))) rfl (fun h0 => ?_) fun h0 => ?_
  · have hm1 := ift hm h0
    refine c_seq ?_
    refine c_reg ?_
    refine r_u (o_as rfl) ?_
    refine r_u (o_as rfl) ?_
    refine r_nil ?_
    refine x_seq ?_
    refine c_ret ?_
    refine ex_st (fun _ h => st_none (f := sketch_Sketch.op default) h) ?_
    obtain rfl := Option.some.inj hm1
    exact x_r2 rfl (rv_t rfl) (rv_t rfl) (Le.refl _) ⟨_, rfl, (nl, default), rfl, rfl, rfl⟩
  · have hm1 := iff_ hm h0
    refine c_skip ?_
    refine x_seq ?_
    refine c_seq ?_
    refine c_reg ?_
    refine r_u (o_mv rfl) ?_
    refine r_u (o_mv rfl) ?_
    refine r_u (o_mv rfl) ?_
    obtain ⟨l3, hl3, hm4⟩ := bs hm1
    refine r_sw (s_w (o_mk (sz := 1) (bytes := 1) (e := 4) (en := eB) Try.underlying173 rfl rfl rfl rfl rfl rfl rfl rfl rfl hl3)) ?_
    rintro v2 R _ _ ⟨rfl, rfl⟩
    refine r_u (ou_if (hd_o 0 rfl) fun hb0 => o_bld [vI a0, vW a1, .slice none 0 0, .slice none 0 0, .slice none 0 0, .slice none 0 0, v2, vI 0] rfl (fun _ => by obtain ⟨_, _, rfl⟩ := hb0; kernel_rfl)) ?_
    refine r_new (o_bx [vI a0, vW a1, .slice none 0 0, .slice none 0 0, .slice none 0 0, .slice none 0 0, v2, vI 0] rfl rfl) fun b5 => ?_
    refine r_u (o_as rfl) ?_
    refine r_nil ?_
    refine x_seq ?_
    refine c_seq ?_
    refine c_seq ?_
    refine c_reg ?_
    refine r_u (o_mv rfl) ?_
    refine r_nil ?_
    refine x_seq ?_
    obtain ⟨p6, hp8, hm9⟩ := bs hm4
    refine cd_cut (fun x ks => ∀ (g7 : Value × Value × Value × Value), EX x .normal ks [(6, pt b5 0)] R (Bk b5 175 [vI a0, vW a1, g7.1, g7.2.1, g7.2.2.1, g7.2.2.2, v2, vI 0] :: OwS true 4 1 eB v2 l3 :: OwL (OwS false 5 1 eY) [g7.1, g7.2.1, g7.2.2.1, g7.2.2.2] p6 :: F)) ?_ fun K10 => ?_
    · intro g7
      refine x_seq ?_
      refine c_seq ?_
      refine c_reg ?_
      refine r_u (o_mv rfl) ?_
      refine r_u (o_as rfl) ?_
      refine r_u (o_as rfl) ?_
      refine r_nil ?_
      refine x_seq ?_
      refine c_ret ?_
      refine ex_st (fun _ h => st_pk 3 [0, 2, 1] (by decide) h) ?_
      refine ex_st (fun _ h => st_some (f := sketch_Sketch.op (⟨g7, v2⟩ : sketch_Sketch.G)) (a := (⟨a0, a1, p6, l3, 0⟩ : sketch_Sketch)) (st_star_f (A := sketch_Sketch.fl b5 (⟨a0, a1, p6, l3, 0⟩ : sketch_Sketch) (⟨g7, v2⟩ : sketch_Sketch.G)) h)) ?_
      obtain rfl := Option.some.inj hm9
      exact x_r2 rfl (rv_t rfl) (rv_t rfl) (Le.refl _) ⟨_, rfl, (pt b5 0, (⟨g7, v2⟩ : sketch_Sketch.G)), rfl, rfl, rfl⟩
    · refine c_blk ?_
      refine cd_st (fun _ h => st_lnil4 (own := OwS false 5 1 eY) (fun _ => OwS.nil) h) ?_
      refine cd_loopG (M := fun k14 (s : Int × List (List UInt8) × (Value × Value × Value × Value)) => sketch_New_l1 a0 k14 s.1 s.2.1 = some p6) (Ef := fun (s : Int × List (List UInt8) × (Value × Value × Value × Value)) => [(0, vI a0), (6, pt b5 0), (20, vI s.1)]) (Rf := fun (s : Int × List (List UInt8) × (Value × Value × Value × Value)) => R) (Lf := fun (s : Int × List (List UInt8) × (Value × Value × Value × Value)) => Bk b5 175 [vI a0, vW a1, s.2.2.1, s.2.2.2.1, s.2.2.2.2.1, s.2.2.2.2.2, v2, vI 0] :: OwS true 4 1 eB v2 l3 :: OwL (OwS false 5 1 eY) [s.2.2.1, s.2.2.2.1, s.2.2.2.2.1, s.2.2.2.2.2] s.2.1 :: F) 5 (0, [[], [], [], []], (.slice none 0 0, .slice none 0 0, .slice none 0 0, .slice none 0 0)) hp8 ⟨rfl, rfl, rfl, trivial⟩ (fun _ h => st_pk 3 [1, 2, 0] (by decide) h) (fun _ h => by cases h) fun k14 s hM16 => ?_
      obtain ⟨s_11, c_12, g13⟩ := s
      have hm15 : sketch_New_l1 a0 (k14 + 1) s_11 c_12 = some p6 := hM16
      rw [sketch_New_l1] at hm15
      refine c_seq ?_
      refine c_reg ?_
      refine r_u (o_bin rfl rfl (bI_lt s_11 4)) ?_
      refine r_nil ?_
      refine x_seq ?_
      refine c_seq ?_
      refine c_if (b := decide (s_11 < 4)) rfl (fun h17 => ?_) fun h17 => ?_
      · have hm18 := ift hm15 h17
        refine c_skip ?_
        refine x_seq ?_
        refine c_seq ?_
        refine c_blk ?_
        refine c_seq ?_
        refine c_reg ?_
        refine r_u (o_mv rfl) ?_
        refine r_u (o_as rfl) ?_
        refine r_nil ?_
        refine x_seq ?_
        obtain ⟨l20, hl20, hm21⟩ := bs hm18
        obtain ⟨y22, hy22, hm24⟩ := bs hm21
        refine cd_ex (fun w h => st_peek 2 hy22 rfl w h) fun u23 hu23 => ?_
        refine c_any mixed (effs := [3, 7]) (V := []) ?_
        refine stage_ext [(0, pt b5 0), (1, vI s_11), (2, vI a0), (4, pt b5 0), (5, pt b5 2)] rfl ?_
        refine stage rfl rfl rfl rfl [0, 0, 0, 4, 1, 17, 63, 127] [0, 1, 2, 4, 5] [3] rfl rfl rfl (qc rfl rfl (s_u (o_mv rfl)) (qc rfl rfl (s_u (o_mv rfl)) (qc rfl rfl (s_u (o_mv rfl)) (qc rfl rfl (s_u (o_nc rfl)) (qc rfl rfl (s_u (o_fa fa175_2 rfl)) qn))))) ?_ (fun h => absurd h (by decide))
        refine ec (eo_w rfl (s_w (o_mk (sz := 1) (bytes := 1) (e := 5) (en := eY) Try.underlying45 rfl rfl rfl rfl rfl rfl rfl rfl rfl hl20)) ?_) en
        rintro v19 R _ _ ⟨rfl, rfl⟩
        refine stage_st (fun _ h => st_weak h) ?_
        refine stage_st (fun _ h => st_pk 4 [1, 3, 0, 2] (by decide) h) ?_
        refine stage_ext [(6, pt b5 (2 + s_11.toNat * 1))] rfl ?_
        refine stage rfl rfl rfl rfl [0, 0, 0, 4, 1, 17, 63, 127] [0, 1, 4, 5, 6] [7] rfl rfl rfl (qc rfl rfl (s_u (o_mv rfl)) (qc rfl rfl (s_u (o_mv rfl)) (qc rfl rfl (s_u (o_nc rfl)) (qc rfl rfl (s_u (o_fa fa175_2 rfl)) (qc rfl rfl (s_u (o_ixA (sz := 1) Try.underlying172 (fun _ => by kernel_rfl) rfl rfl (gi_some hu23).1)) qn))))) ?_ (fun h => absurd h (by decide))
        refine ec (eo_w rfl (s_w (ow_if (one_o 2 rfl) fun ho => o_stA4 (A := [vI a0, vW a1]) (B := [v2, vI 0]) hy22 hu23 sc45 rfl rfl rfl ho)) ?_) en
        rintro _ R _ _ ⟨p25, p26, p27, p28, rfl, rfl, rfl⟩
        refine stage rfl rfl rfl rfl [0, 0, 0, 4, 1, 17, 63, 127] [] [] rfl rfl rfl qn en ?_
        intro _
        refine ex_sub (E' := [(0, vI a0), (6, pt b5 0), (20, vI s_11)]) ⟨rfl, rfl, rfl, trivial⟩ ?_
        refine x_blk ?_
        refine x_seq ?_
        refine c_reg ?_
        refine r_u (o_bin rfl rfl (bI_add s_11 1)) ?_
        refine r_u (o_mv rfl) ?_
        refine r_nil ?_
        exact x_lp (i64 (s_11 + 1), ls c_12 s_11 l20, (p25, p26, p27, p28)) hm24 ⟨rfl, rfl, rfl, trivial⟩ (fun _ h => st_pk 3 [0, 2, 1] (by decide) h)
      · have hm18 := iff_ hm15 h17
        refine c_exit (x_exit (ks' := _) rfl ?_)
        obtain rfl := Option.some.inj hm18
        exact x_sub (K10 g13) ⟨rfl, trivial⟩ (fun _ h => st_pk 3 [0, 1, 2] (by decide) h)

def tiny_New (a0 : Int) (a1 : UInt64) : Option (Option tiny_Tiny × Int) :=
  if (decide (a0 < 1) || decide (1000 < a0)) then some (none, 1) else (sketch_New (tiny_wide a0) a1).bind fun r2 => (ring_New 3 (i64 (a0 + 1))).bind fun r7 => some ((some (⟨a0, r2.1, r7.1⟩ : tiny_Tiny)), r7.2)
theorem tiny_New.ok {G R F} (a0 : Int) (a1 : UInt64) (r : Option tiny_Tiny × Int) (hm : tiny_New a0 a1 = some r) : CO Try.prog 58 [vI a0, vW a1] G R (F)
    (Ret fun u R' L' => ∃ (p0 : Value × tiny_Tiny.G), u = .tuple #[p0.1, vI r.2] ∧ R' = R ∧ L' = rO (tiny_Tiny.op p0.2) p0.1 r.1 :: F) := by
  unfold tiny_New at hm
  refine co_ofN (N := 35) Try.func58 rfl rfl ?_
  refine c_seq ?_
  refine c_reg ?_
  refine r_u (o_as rfl) ?_
  refine r_u (o_as rfl) ?_
  refine r_nil ?_
  refine x_seq ?_
  refine c_seq ?_
  refine c_seq ?_
  refine c_reg ?_
  refine r_u (o_mv rfl) ?_
  refine r_u (o_bin rfl rfl (bI_lt a0 1)) ?_
  refine r_u (o_mv rfl) ?_
  refine r_s (s_gf rfl rfl fun g => o_mv rfl) ?_
  refine r_s (s_gf rfl rfl fun g => o_bin (evg rfl g) rfl (bI_gt a0 1000)) ?_
  refine r_u (o_or rfl rfl) ?_
  refine r_nil ?_
  refine x_seq ?_
  refine c_if (b := (decide (a0 < 1) || decide (1000 < a0))) rfl (fun h0 => ?_) fun h0 => ?_
  · have hm1 := ift hm h0
    refine c_seq ?_
    refine c_reg ?_
    refine r_u (o_as rfl) ?_
    refine r_u (o_as rfl) ?_
    refine r_nil ?_
    refine x_seq ?_
    refine c_ret ?_
    refine ex_st (fun _ h => st_none (f := tiny_Tiny.op default) h) ?_
    obtain rfl := Option.some.inj hm1
    exact x_r2 rfl (rv_t rfl) (rv_t rfl) (Le.refl _) ⟨_, rfl, (nl, default), rfl, rfl, rfl⟩
  · have hm1 := iff_ hm h0
    refine c_skip ?_
    refine x_seq ?_
    refine c_seq ?_
    refine c_reg ?_
    refine r_u (o_mv rfl) ?_
    refine r_u (o_callq ca103 rfl (tiny_wide.ok a0 _ rfl)) ?_
    refine r_u (o_mv rfl) ?_
    obtain ⟨r2, hr2, hm6⟩ := bs hm1
    refine r_sw (s_w (o_call ca102 rfl (sketch_New.ok (tiny_wide a0) a1 r2 hr2))) ?_
    rintro _ R _ _ ⟨⟨pv4, g5⟩, rfl, rfl, rfl⟩
    refine r_u (o_mv rfl) ?_
    refine r_u (o_ext rfl rfl) ?_
    refine r_u (o_ext rfl rfl) ?_
    refine r_u (o_as rfl) ?_
    refine r_u (o_as rfl) ?_
    refine r_nil ?_
    refine x_seq ?_
    refine c_seq ?_
    refine c_reg ?_
    refine r_u (o_mv rfl) ?_
    refine r_u (o_bin rfl rfl (bI_add a0 1)) ?_
    obtain ⟨r7, hr7, hm11⟩ := bs hm6
    refine r_sw (s_w (o_call ca101 rfl (ring_New.ok 3 (i64 (a0 + 1)) r7 hr7))) ?_
    rintro _ R _ _ ⟨⟨pv9, g10⟩, rfl, rfl, rfl⟩
    refine r_u (o_mv rfl) ?_
    refine r_u (o_ext rfl rfl) ?_
    refine r_u (o_ext rfl rfl) ?_
    refine r_u (o_as rfl) ?_
    refine r_u (o_as rfl) ?_
    refine r_nil ?_
    refine x_seq ?_
    refine c_seq ?_
    refine c_reg ?_
    refine r_u (o_mv rfl) ?_
    refine r_u (o_mv rfl) ?_
    refine r_u (o_mv rfl) ?_
    refine r_u (ou_if (hd_p 1 rfl) fun hb0 => ou_if (hd_p 0 rfl) fun hb1 => o_bld [vI a0, pv4, pv9] rfl (fun _ => by obtain ⟨_, rfl⟩ := hb0; obtain ⟨_, rfl⟩ := hb1; kernel_rfl)) ?_
    refine r_new (o_bx [vI a0, pv4, pv9] rfl rfl) fun b12 => ?_
    refine r_u (o_mv rfl) ?_
    refine r_u (o_as rfl) ?_
    refine r_u (o_as rfl) ?_
    refine r_nil ?_
    refine x_seq ?_
    refine c_ret ?_
    refine ex_st (fun _ h => st_pk 3 [0, 2, 1] (by decide) h) ?_
    refine ex_st (fun _ h => st_some (f := tiny_Tiny.op (⟨(pv4, g5), (pv9, g10)⟩ : tiny_Tiny.G)) (a := (⟨a0, r2.1, r7.1⟩ : tiny_Tiny)) (st_star_f (A := tiny_Tiny.fl b12 (⟨a0, r2.1, r7.1⟩ : tiny_Tiny) (⟨(pv4, g5), (pv9, g10)⟩ : tiny_Tiny.G)) h)) ?_
    obtain rfl := Option.some.inj hm11
    exact x_r2 rfl (rv_t rfl) (rv_t rfl) (Le.refl _) ⟨_, rfl, (pt b12 0, (⟨(pv4, g5), (pv9, g10)⟩ : tiny_Tiny.G)), rfl, rfl, rfl⟩

def policy_New (a0 : Int) (a1 : Int) (a2 : UInt64) : Option (Option policy_Policy × Int) :=
  Option.bind (if (a0 == 1) then (arc_New a1).bind fun r15 => some (r15.2, r15.1, none) else Option.bind (if (a0 == 2) then (tiny_New a1 a2).bind fun r29 => some (r29.2, r29.1) else some (1, none)) fun p20 => some (p20.1, none, p20.2)) fun p1 => if (p1.1 != 0) then some (none, p1.1) else some ((some (⟨a0, p1.2.1, p1.2.2⟩ : policy_Policy)), 0)
theorem policy_New.ok {G R F} (a0 : Int) (a1 : Int) (a2 : UInt64) (r : Option policy_Policy × Int) (hm : policy_New a0 a1 a2 = some r) : CO Try.prog 27 [vI a0, vI a1, vW a2] G R (F)
    (Ret fun u R' L' => ∃ (p0 : Value × policy_Policy.G), u = .tuple #[p0.1, vI r.2] ∧ R' = R ∧ L' = rO (policy_Policy.op p0.2) p0.1 r.1 :: F) := by
  unfold policy_New at hm
  refine co_ofN (N := 39) Try.func27 rfl rfl ?_
  refine c_seq ?_
  refine c_reg ?_
  refine r_u (o_as rfl) ?_
  refine r_u (o_as rfl) ?_
  refine r_nil ?_
  refine x_seq ?_
  refine c_seq ?_
  refine c_reg ?_
  refine r_u (o_mv rfl) ?_
  refine r_u (o_bld [vI a0, nl, nl] rfl (fun _ => by kernel_rfl)) ?_
  refine r_new (o_bx [vI a0, nl, nl] rfl rfl) fun b0 => ?_
  refine r_u (o_as rfl) ?_
  refine r_u (o_as rfl) ?_
  refine r_nil ?_
  refine x_seq ?_
  refine c_seq ?_
  refine c_seq ?_
  refine c_reg ?_
  refine r_u (o_mv rfl) ?_
  refine r_nil ?_
  refine x_seq ?_
  refine c_blk ?_
  refine c_seq ?_
  refine c_reg ?_
  refine r_u (o_bin rfl rfl (bI_eq a0 1)) ?_
  refine r_u (o_as rfl) ?_
  refine r_nil ?_
  refine x_seq ?_
  obtain ⟨p1, hp8, hm9⟩ := bs hm
  refine cd_cut (fun x ks => ∀ (pv2 : Value × arc_Arc.G), ∀ (pv5 : Value × tiny_Tiny.G), EX x .normal ks [(8, pt b0 0), (9, vI p1.1)] R (Bk b0 105 [vI a0, pv2.1, pv5.1] :: rO (arc_Arc.op pv2.2) pv2.1 p1.2.1 :: rO (tiny_Tiny.op pv5.2) pv5.1 p1.2.2 :: F)) ?_ fun K10 => ?_
  · intro pv2 pv5
    obtain ⟨pv3, g4⟩ := pv2
    obtain ⟨pv6, g7⟩ := pv5
    refine x_blk ?_
    refine x_seq ?_
    refine c_seq ?_
    refine c_seq ?_
    refine c_reg ?_
    refine r_u (o_mv rfl) ?_
    refine r_u (o_bin rfl rfl (bI_ne p1.1 0)) ?_
    refine r_nil ?_
    refine x_seq ?_
    refine c_if (b := (p1.1 != 0)) rfl (fun h11 => ?_) fun h11 => ?_
    · have hm12 := ift hm9 h11
      refine c_seq ?_
      refine c_reg ?_
      refine r_u (o_mv rfl) ?_
      refine r_u (o_as rfl) ?_
      refine r_u (o_as rfl) ?_
      refine r_nil ?_
      refine x_seq ?_
      refine c_ret ?_
      refine ex_st (fun _ h => st_none (f := policy_Policy.op default) h) ?_
      obtain rfl := Option.some.inj hm12
      refine ex_st (fun _ h => st_pk 4 [0] (by decide) h) ?_
      exact x_r2 rfl (rv_t rfl) (rv_t rfl) (Le.refl _) ⟨_, rfl, (nl, default), rfl, rfl, rfl⟩
    · have hm12 := iff_ hm9 h11
      refine c_skip ?_
      refine x_seq ?_
      refine c_seq ?_
      refine c_reg ?_
      refine r_u (o_mv rfl) ?_
      refine r_u (o_as rfl) ?_
      refine r_u (o_as rfl) ?_
      refine r_nil ?_
      refine x_seq ?_
      refine c_ret ?_
      refine ex_st (fun _ h => st_some (f := policy_Policy.op (⟨(pv3, g4), (pv6, g7)⟩ : policy_Policy.G)) (a := (⟨a0, p1.2.1, p1.2.2⟩ : policy_Policy)) (st_star_f (A := policy_Policy.fl b0 (⟨a0, p1.2.1, p1.2.2⟩ : policy_Policy) (⟨(pv3, g4), (pv6, g7)⟩ : policy_Policy.G)) h)) ?_
      obtain rfl := Option.some.inj hm12
      exact x_r2 rfl (rv_t rfl) (rv_t rfl) (Le.refl _) ⟨_, rfl, (pt b0 0, (⟨(pv3, g4), (pv6, g7)⟩ : policy_Policy.G)), rfl, rfl, rfl⟩
  · refine c_if (b := (a0 == 1)) rfl (fun h13 => ?_) fun h13 => ?_
    · have hm14 := ift hp8 h13
      refine c_reg ?_
      refine r_u (o_mv rfl) ?_
      refine r_u (o_mv rfl) ?_
      obtain ⟨r15, hr15, hm19⟩ := bs hm14
      refine r_sw (s_w (o_call ca57 rfl (arc_New.ok a1 r15 hr15))) ?_
      rintro _ R _ _ ⟨⟨pv17, g18⟩, rfl, rfl, rfl⟩
      refine r_u (o_mv rfl) ?_
      refine r_u (o_ext rfl rfl) ?_
      refine r_u (o_ext rfl rfl) ?_
      refine r_u (o_nc rfl) ?_
      refine r_u (o_fa fa105_1 rfl) ?_
      refine rl_st (fun _ h => st_pk 2 [1, 0] (by decide) h) ?_
      refine r_u0 (ou_if (one_p 1 rfl) fun ho0 => o_st sc102 rfl rfl rfl ho0 rfl rfl) ?_
      refine r_u (o_as rfl) ?_
      refine r_nil ?_
      refine ex_st (fun _ h => st_none (f := tiny_Tiny.op default) h) ?_
      obtain rfl := Option.some.inj hm19
      exact x_sub (K10 (pv17, g18) (nl, default)) ⟨rfl, rfl, trivial⟩ (fun _ h => st_pk 3 [1, 2, 0] (by decide) h)
    · have hm14 := iff_ hp8 h13
      refine c_seq ?_
      refine c_reg ?_
      refine r_u (o_bin rfl rfl (bI_eq a0 2)) ?_
      refine r_u (o_as rfl) ?_
      refine r_nil ?_
      refine x_seq ?_
      obtain ⟨p20, hp24, hm25⟩ := bs hm14
      refine cd_cut (fun x ks => ∀ (pv21 : Value × tiny_Tiny.G), EX x .normal ks [(8, pt b0 0), (9, vI p20.1)] R (Bk b0 105 [vI a0, nl, pv21.1] :: rO (tiny_Tiny.op pv21.2) pv21.1 p20.2 :: F)) ?_ fun K26 => ?_
      · intro pv21
        obtain ⟨pv22, g23⟩ := pv21
        refine ex_st (fun _ h => st_none (f := arc_Arc.op default) h) ?_
        obtain rfl := Option.some.inj hm25
        exact x_sub (K10 (nl, default) (pv22, g23)) ⟨rfl, rfl, trivial⟩ (fun _ h => st_pk 3 [1, 0, 2] (by decide) h)
      · refine c_if (b := (a0 == 2)) rfl (fun h27 => ?_) fun h27 => ?_
        · have hm28 := ift hp24 h27
          refine c_reg ?_
          refine r_u (o_mv rfl) ?_
          refine r_u (o_mv rfl) ?_
          refine r_u (o_mv rfl) ?_
          obtain ⟨r29, hr29, hm33⟩ := bs hm28
          refine r_sw (s_w (o_call ca58 rfl (tiny_New.ok a1 a2 r29 hr29))) ?_
          rintro _ R _ _ ⟨⟨pv31, g32⟩, rfl, rfl, rfl⟩
          refine r_u (o_mv rfl) ?_
          refine r_u (o_ext rfl rfl) ?_
          refine r_u (o_ext rfl rfl) ?_
          refine r_u (o_nc rfl) ?_
          refine r_u (o_fa fa105_2 rfl) ?_
          refine rl_st (fun _ h => st_pk 2 [1, 0] (by decide) h) ?_
          refine r_u0 (ou_if (one_p 1 rfl) fun ho0 => o_st sc103 rfl rfl rfl ho0 rfl rfl) ?_
          refine r_u (o_as rfl) ?_
          refine r_nil ?_
          obtain rfl := Option.some.inj hm33
          exact x_sub (K26 (pv31, g32)) ⟨rfl, rfl, trivial⟩ (fun _ h => st_pk 2 [0, 1] (by decide) h)
        · have hm28 := iff_ hp24 h27
          refine c_skip ?_
          refine ex_st (fun _ h => st_none (f := tiny_Tiny.op default) h) ?_
          obtain rfl := Option.some.inj hm28
          exact x_sub (K26 (nl, default)) ⟨rfl, rfl, trivial⟩ (fun _ h => st_pk 2 [1, 0] (by decide) h)

def policy_Policy_Kind (a0 : policy_Policy) : Int :=
  a0.kind
theorem policy_Policy_Kind.ok {G R F} (b0_ : Nat) (a0 : policy_Policy) (g0_ : policy_Policy.G) (r : Int) (hm : policy_Policy_Kind a0 = r) : CO Try.prog 34 [pt b0_ 0] G R (Bk b0_ 105 [vI a0.kind, g0_.a.1, g0_.t.1] :: rO (arc_Arc.op g0_.a.2) g0_.a.1 a0.a :: rO (tiny_Tiny.op g0_.t.2) g0_.t.1 a0.t :: F)
    (Ret fun u R' L' => u = vI r ∧ R' = R ∧ L' = Bk b0_ 105 [vI a0.kind, g0_.a.1, g0_.t.1] :: rO (arc_Arc.op g0_.a.2) g0_.a.1 a0.a :: rO (tiny_Tiny.op g0_.t.2) g0_.t.1 a0.t :: F) := by
  obtain ⟨⟨pv1, g2⟩, ⟨pv4, g5⟩⟩ := g0_
  unfold policy_Policy_Kind at hm
  refine co_ofN (N := 9) Try.func34 rfl rfl ?_
  refine c_seq ?_
  refine c_reg ?_
  refine r_u (o_as rfl) ?_
  refine r_nil ?_
  refine x_seq ?_
  refine c_seq ?_
  refine c_seq ?_
  refine c_reg ?_
  refine r_u (o_mv rfl) ?_
  refine r_u (o_bin rfl rfl (bP_eqp Try.underlying71)) ?_
  refine r_nil ?_
  refine x_seq ?_
  refine c_ff rfl ?_
  refine c_skip ?_
  refine x_seq ?_
  refine c_seq ?_
  refine c_reg ?_
  refine r_u (o_mv rfl) ?_
  refine r_u (o_nc rfl) ?_
  refine r_u (o_fa fa105_0 rfl) ?_
  refine r_u (o_ld 0 sc3 rfl rfl rfl) ?_
  refine r_u (o_as rfl) ?_
  refine r_nil ?_
  refine x_seq ?_
  refine c_ret ?_
  subst hm
  exact x_r1 rfl (rv_t rfl) (Le.refl _) ⟨_, rfl, rfl, rfl, rfl⟩

def ring_Rings_In (a0 : ring_Rings) (a1 : Str) : Option (Int × Bool) :=
  if !((mget a0.at_ a1).isSome) then some (0, false) else (gi a0.slots ((mget a0.at_ a1).getD (0 : Int))).bind fun x6 => some (x6.list, true)
theorem ring_Rings_In.ok {G R F} (b0_ : Nat) (a0 : ring_Rings) (g0_ : ring_Rings.G) (a1 : Str) (r : Int × Bool) (hm : ring_Rings_In a0 a1 = some r) : CO Try.prog 96 [pt b0_ 0, vS a1] G R (Bk b0_ 168 [vI a0.lists, g0_.slots, g0_.free, g0_.at_, g0_.many] :: OwS true 170 4 ring_slot.c g0_.slots a0.slots :: OwS true 3 1 eI g0_.free a0.free :: OwM vS vI g0_.at_ a0.at_ :: OwS true 3 1 eI g0_.many a0.many :: F)
    (Ret fun u R' L' => u = .tuple #[vI r.1, vB r.2] ∧ R' = R ∧ L' = Bk b0_ 168 [vI a0.lists, g0_.slots, g0_.free, g0_.at_, g0_.many] :: OwS true 170 4 ring_slot.c g0_.slots a0.slots :: OwS true 3 1 eI g0_.free a0.free :: OwM vS vI g0_.at_ a0.at_ :: OwS true 3 1 eI g0_.many a0.many :: F) := by
  unfold ring_Rings_In at hm
  refine co_ofN (N := 29) Try.func96 rfl rfl ?_
  refine c_seq ?_
  refine c_reg ?_
  refine r_u (o_as rfl) ?_
  refine r_u (o_as rfl) ?_
  refine r_nil ?_
  refine x_seq ?_
  refine c_seq ?_
  refine c_seq ?_
  refine c_reg ?_
  refine r_u (o_mv rfl) ?_
  refine r_u (o_bin rfl rfl (bP_eqp Try.underlying135)) ?_
  refine r_nil ?_
  refine x_seq ?_
  refine c_ff rfl ?_
  refine c_skip ?_
  refine x_seq ?_
  refine c_seq ?_
  refine c_reg ?_
  refine r_u (o_mv rfl) ?_
  refine r_u (o_nc rfl) ?_
  refine r_u (o_fa fa168_3 rfl) ?_
  refine r_u (o_ld 0 sc166 rfl rfl rfl) ?_
  refine r_u (o_mv rfl) ?_
  refine r_u (o_lk (kv := vS) (vv := vI) (key := a1) (z0 := (0 : Int)) 3 Try.underlying166 (kok_S Try.underlying9) (fun _ => by kernel_rfl) rfl rfl rfl) ?_
  refine r_u (o_mv rfl) ?_
  refine r_u (o_ext rfl rfl) ?_
  refine r_u (o_ext rfl rfl) ?_
  refine r_u (o_as rfl) ?_
  refine r_u (o_as rfl) ?_
  refine r_nil ?_
  refine x_seq ?_
  refine c_seq ?_
  refine c_seq ?_
  refine c_reg ?_
  refine r_u (o_mv rfl) ?_
  refine r_u (o_not rfl) ?_
  refine r_nil ?_
  refine x_seq ?_
  refine c_if (b := !((mget a0.at_ a1).isSome)) rfl (fun h4 => ?_) fun h4 => ?_
  · have hm5 := ift hm h4
    refine c_seq ?_
    refine c_reg ?_
    refine r_u (o_as rfl) ?_
    refine r_u (o_as rfl) ?_
    refine r_nil ?_
    refine x_seq ?_
    refine c_ret ?_
    obtain rfl := Option.some.inj hm5
    exact x_r2 rfl (rv_t rfl) (rv_t rfl) (Le.refl _) ⟨_, rfl, rfl, rfl, rfl⟩
  · have hm5 := iff_ hm h4
    refine c_skip ?_
    refine x_seq ?_
    refine c_seq ?_
    refine c_reg ?_
    refine r_u (o_mv rfl) ?_
    refine r_u (o_nc rfl) ?_
    refine r_u (o_fa fa168_1 rfl) ?_
    refine r_u (o_ld 0 sc164 rfl rfl rfl) ?_
    refine r_u (o_mv rfl) ?_
    obtain ⟨x6, hx6, hm7⟩ := bs hm5
    refine r_u (o_ixO 1 Try.underlying164 (fun _ => by kernel_rfl) rfl rfl rfl hx6) ?_
    refine r_u (o_fa fa170_1 rfl) ?_
    refine r_u (o_ldO 1 1 sc3 rfl rfl hx6 rfl rfl) ?_
    refine r_u (o_as rfl) ?_
    refine r_u (o_as rfl) ?_
    refine r_nil ?_
    refine x_seq ?_
    refine c_ret ?_
    obtain rfl := Option.some.inj hm7
    exact x_r2 rfl (rv_t rfl) (rv_t rfl) (Le.refl _) ⟨_, rfl, rfl, rfl, rfl⟩

def arc_Arc_Has (a0 : arc_Arc) (a1 : Str) : Option Bool :=
  om a0.r (none) fun x3 => (ring_Rings_In x3 a1).bind fun r11 => some (r11.2 && decide (r11.1 ≤ 1))
theorem arc_Arc_Has.ok {G R F} (b0_ : Nat) (a0 : arc_Arc) (g0_ : arc_Arc.G) (a1 : Str) (r : Bool) (hm : arc_Arc_Has a0 a1 = some r) : CO Try.prog 59 [pt b0_ 0, vS a1] G R (Bk b0_ 144 [vI a0.most, vI a0.target, g0_.r.1] :: rO (ring_Rings.op g0_.r.2) g0_.r.1 a0.r :: F)
    (Ret fun u R' L' => u = vB r ∧ R' = R ∧ L' = Bk b0_ 144 [vI a0.most, vI a0.target, g0_.r.1] :: rO (ring_Rings.op g0_.r.2) g0_.r.1 a0.r :: F) := by
  obtain ⟨⟨pv1, g2⟩⟩ := g0_
  unfold arc_Arc_Has at hm
  refine co_ofN (N := 23) Try.func59 rfl rfl ?_
  refine c_seq ?_
  refine c_reg ?_
  refine r_u (o_as rfl) ?_
  refine r_nil ?_
  refine x_seq ?_
  refine c_seq ?_
  refine c_seq ?_
  refine c_reg ?_
  refine r_u (o_mv rfl) ?_
  refine r_u (o_bin rfl rfl (bP_eqp Try.underlying102)) ?_
  refine r_nil ?_
  refine x_seq ?_
  refine c_ff rfl ?_
  refine c_skip ?_
  refine x_seq ?_
  refine c_seq ?_
  refine cd_st (fun _ h => st_pk 2 [1, 0] (by decide) h) ?_
  refine cd_opt (fun ho5 => ?_) (fun x3 b4 ho5 => ?_)
  · rintro rfl
    have hm6 := om_n hm ho5
    cases hm6
  · rintro rfl
    have hm6 := om_s hm ho5
    refine cd_st (fun _ h => st_star_o h) ?_
    refine c_reg ?_
    refine r_u (o_mv rfl) ?_
    refine r_u (o_nc rfl) ?_
    refine r_u (o_fa fa144_2 rfl) ?_
    refine r_u (o_ld 5 sc135 rfl rfl rfl) ?_
    refine r_u (o_mv rfl) ?_
    obtain ⟨r11, hr11, hm12⟩ := bs hm6
    refine r_c (s_w (o_call ca96 rfl (ring_Rings_In.ok b4 x3 g2 a1 r11 hr11))) ?_
    refine r_u (o_mv rfl) ?_
    refine r_u (o_ext rfl rfl) ?_
    refine r_u (o_ext rfl rfl) ?_
    refine r_u (o_as rfl) ?_
    refine r_u (o_as rfl) ?_
    refine r_nil ?_
    refine x_seq ?_
    refine c_seq ?_
    refine c_reg ?_
    refine r_u (o_mv rfl) ?_
    refine r_u (o_mv rfl) ?_
    refine r_s (s_gt rfl rfl fun g => o_mv rfl) ?_
    refine r_s (s_gt rfl rfl fun g => o_bin (evg rfl g) rfl (bI_le r11.1 1)) ?_
    refine r_u (o_and rfl rfl) ?_
    refine r_u (o_as rfl) ?_
    refine r_nil ?_
    refine x_seq ?_
    refine c_ret ?_
    refine ex_st (fun _ h => st_some (f := ring_Rings.op g2) (a := x3) (st_star_f (A := ring_Rings.fl b4 x3 g2) h)) ?_
    refine ex_st (fun _ h => st_back ho5 h) ?_
    obtain rfl := Option.some.inj hm12
    refine ex_st (fun _ h => st_pk 2 [1, 0] (by decide) h) ?_
    exact x_r1 rfl (rv_t rfl) (Le.refl _) ⟨_, rfl, rfl, rfl, rfl⟩

def ring_Rings_is (a0 : ring_Rings) (a1 : Int) : Bool :=
  (decide (0 ≤ a1) && decide (a1 < a0.lists))
theorem ring_Rings_is.ok {G R F} (b0_ : Nat) (a0 : ring_Rings) (g0_ : ring_Rings.G) (a1 : Int) (r : Bool) (hm : ring_Rings_is a0 a1 = r) : CO Try.prog 124 [pt b0_ 0, vI a1] G R (Bk b0_ 168 [vI a0.lists, g0_.slots, g0_.free, g0_.at_, g0_.many] :: OwS true 170 4 ring_slot.c g0_.slots a0.slots :: OwS true 3 1 eI g0_.free a0.free :: OwM vS vI g0_.at_ a0.at_ :: OwS true 3 1 eI g0_.many a0.many :: F)
    (Ret fun u R' L' => u = vB r ∧ R' = R ∧ L' = Bk b0_ 168 [vI a0.lists, g0_.slots, g0_.free, g0_.at_, g0_.many] :: OwS true 170 4 ring_slot.c g0_.slots a0.slots :: OwS true 3 1 eI g0_.free a0.free :: OwM vS vI g0_.at_ a0.at_ :: OwS true 3 1 eI g0_.many a0.many :: F) := by
  unfold ring_Rings_is at hm
  refine co_ofN (N := 19) Try.func124 rfl rfl ?_
  refine c_seq ?_
  refine c_reg ?_
  refine r_u (o_as rfl) ?_
  refine r_nil ?_
  refine x_seq ?_
  refine c_seq ?_
  refine c_reg ?_
  refine r_u (o_mv rfl) ?_
  refine r_u (o_bin rfl rfl (bP_nep Try.underlying135)) ?_
  refine r_u (o_mv rfl) ?_
  refine r_s (s_y rfl rfl rfl (o_mv rfl)) ?_
  refine r_s (s_y rfl rfl rfl (o_bin rfl rfl (bI_ge a1 0))) ?_
  refine r_u (o_pt rfl rfl rfl) ?_
  refine r_u (o_mv rfl) ?_
  refine r_s (s_gt rfl rfl fun g => o_mv rfl) ?_
  refine r_s (s_gt rfl rfl fun g => o_mv rfl) ?_
  refine r_s (s_gt rfl rfl fun g => o_nc (evg rfl g)) ?_
  refine r_s (s_gt rfl rfl fun g => o_fa fa168_0 (evg rfl g)) ?_
  refine r_s (s_gt rfl rfl fun g => o_ld 0 sc3 (evg rfl g) rfl rfl) ?_
  refine r_s (s_gt rfl rfl fun g => o_bin (evg rfl g) (evg rfl g) (bI_lt a1 a0.lists)) ?_
  refine r_u (o_and rfl rfl) ?_
  refine r_u (o_as rfl) ?_
  refine r_nil ?_
  refine x_seq ?_
  refine c_ret ?_
  subst hm
  exact x_r1 rfl (rv_t rfl) (Le.refl _) ⟨_, rfl, rfl, rfl, rfl⟩

def ring_Rings_cut (a0 : ring_Rings) (a1 : Int) : Option ring_Rings :=
  (gi a0.slots a1).bind fun x4 => (gi a0.slots x4.prev).bind fun x6 => (gi (ls a0.slots x4.prev (⟨x6.key, x6.list, x6.prev, x4.next⟩ : ring_slot)) x4.next).bind fun x8 => (gi (ls (ls a0.slots x4.prev (⟨x6.key, x6.list, x6.prev, x4.next⟩ : ring_slot)) x4.next (⟨x8.key, x8.list, x4.prev, x8.next⟩ : ring_slot)) a1).bind fun x10 => (gi a0.many x10.list).bind fun x12 => some (⟨a0.lists, ls (ls a0.slots x4.prev (⟨x6.key, x6.list, x6.prev, x4.next⟩ : ring_slot)) x4.next (⟨x8.key, x8.list, x4.prev, x8.next⟩ : ring_slot), a0.free, a0.at_, ls a0.many x10.list (i64 (x12 - 1))⟩ : ring_Rings)
theorem ring_Rings_cut.ok {G R F} (b0_ : Nat) (a0 : ring_Rings) (g0_ : ring_Rings.G) (a1 : Int) (r : ring_Rings) (hm : ring_Rings_cut a0 a1 = some r) : CO Try.prog 123 [pt b0_ 0, vI a1] G R (Bk b0_ 168 [vI a0.lists, g0_.slots, g0_.free, g0_.at_, g0_.many] :: OwS true 170 4 ring_slot.c g0_.slots a0.slots :: OwS true 3 1 eI g0_.free a0.free :: OwM vS vI g0_.at_ a0.at_ :: OwS true 3 1 eI g0_.many a0.many :: F)
    (Ret fun u R' L' => u = .tuple #[] ∧ R' = R ∧ L' = Bk b0_ 168 [vI r.lists, g0_.slots, g0_.free, g0_.at_, g0_.many] :: OwS true 170 4 ring_slot.c g0_.slots r.slots :: OwS true 3 1 eI g0_.free r.free :: OwM vS vI g0_.at_ r.at_ :: OwS true 3 1 eI g0_.many r.many :: F) := by
  unfold ring_Rings_cut at hm
  refine co_ofN (N := 51) Try.func123 rfl rfl ?_
  refine c_seq ?_
  refine c_reg ?_
  refine r_u (o_mv rfl) ?_
  refine r_u (o_nc rfl) ?_
  refine r_u (o_fa fa168_1 rfl) ?_
  refine r_u (o_ld 0 sc164 rfl rfl rfl) ?_
  refine r_u (o_mv rfl) ?_
  obtain ⟨x4, hx4, hm5⟩ := bs hm
  refine r_u (o_ixO 1 Try.underlying164 (fun _ => by kernel_rfl) rfl rfl rfl hx4) ?_
  refine r_u (o_as rfl) ?_
  refine r_nil ?_
  refine x_seq ?_
  refine c_seq ?_
  obtain ⟨x6, hx6, hm7⟩ := bs hm5
  obtain ⟨x8, hx8, hm9⟩ := bs hm7
  refine c_any mixed (effs := [26, 29]) (V := []) ?_
  refine stage_st (fun _ h => st_pk 5 [1, 0, 2, 3, 4] (by decide) h) ?_
  refine stage_ext [(0, pt b0_ 0), (1, pt b0_ 0), (2, pt b0_ 1), (3, g0_.slots), (4, pt (sb g0_.slots) (so g0_.slots + a1.toNat * 4)), (5, pt (sb g0_.slots) (so g0_.slots + a1.toNat * 4)), (6, pt (sb g0_.slots) (so g0_.slots + a1.toNat * 4 + 2)), (7, vI x4.prev), (8, pt b0_ 0), (9, pt b0_ 0), (10, pt b0_ 1), (11, g0_.slots), (12, pt (sb g0_.slots) (so g0_.slots + a1.toNat * 4)), (13, pt (sb g0_.slots) (so g0_.slots + a1.toNat * 4)), (14, pt (sb g0_.slots) (so g0_.slots + a1.toNat * 4 + 3)), (15, vI x4.next), (16, pt (sb g0_.slots) (so g0_.slots + a1.toNat * 4)), (17, pt (sb g0_.slots) (so g0_.slots + a1.toNat * 4)), (18, pt (sb g0_.slots) (so g0_.slots + a1.toNat * 4 + 3)), (19, vI x4.next), (20, pt (sb g0_.slots) (so g0_.slots + a1.toNat * 4)), (21, pt (sb g0_.slots) (so g0_.slots + a1.toNat * 4)), (22, pt (sb g0_.slots) (so g0_.slots + a1.toNat * 4 + 2)), (23, vI x4.prev), (24, pt (sb g0_.slots) (so g0_.slots + x4.prev.toNat * 4)), (25, pt (sb g0_.slots) (so g0_.slots + x4.prev.toNat * 4 + 3))] rfl ?_
  refine stage rfl rfl rfl rfl [0, 1, 3, 7, 0, 16, 48, 112, 0, 256, 768, 1792, 0, 4096, 12288, 28672, 0, 65536, 196608, 458752, 0, 1048576, 3145728, 7340032, 16777215, 33554431, 67108863, 134217727, 268435455, 536870911] [0, 1, 2, 3, 4, 5, 6, 7, 8, 9, 10, 11, 12, 13, 14, 15, 16, 17, 18, 19, 20, 21, 22, 23, 24, 25] [26] rfl rfl rfl (qc rfl rfl (s_u (o_mv rfl)) (qc rfl rfl (s_u (o_nc rfl)) (qc rfl rfl (s_u (o_fa fa168_1 rfl)) (qc rfl rfl (s_u (o_ld 1 sc164 rfl rfl rfl)) (qc rfl rfl (s_u (o_mv rfl)) (qc rfl rfl (s_u (o_nc rfl)) (qc rfl rfl (s_u (o_fa fa170_2 rfl)) (qc rfl rfl (s_u (o_ldO 0 2 sc3 rfl rfl hx4 rfl rfl)) (qc rfl rfl (s_u (o_mv rfl)) (qc rfl rfl (s_u (o_nc rfl)) (qc rfl rfl (s_u (o_fa fa168_1 rfl)) (qc rfl rfl (s_u (o_ld 1 sc164 rfl rfl rfl)) (qc rfl rfl (s_u (o_mv rfl)) (qc rfl rfl (s_u (o_nc rfl)) (qc rfl rfl (s_u (o_fa fa170_3 rfl)) (qc rfl rfl (s_u (o_ldO 0 3 sc3 rfl rfl hx4 rfl rfl)) (qc rfl rfl (s_u (o_mv rfl)) (qc rfl rfl (s_u (o_nc rfl)) (qc rfl rfl (s_u (o_fa fa170_3 rfl)) (qc rfl rfl (s_u (o_ldO 0 3 sc3 rfl rfl hx4 rfl rfl)) (qc rfl rfl (s_u (o_mv rfl)) (qc rfl rfl (s_u (o_nc rfl)) (qc rfl rfl (s_u (o_fa fa170_2 rfl)) (qc rfl rfl (s_u (o_ldO 0 2 sc3 rfl rfl hx4 rfl rfl)) (qc rfl rfl (s_u (o_ixO 0 Try.underlying164 (fun _ => by kernel_rfl) rfl rfl rfl hx6)) (qc rfl rfl (s_u (o_fa fa170_3 rfl)) qn)))))))))))))))))))))))))) ?_ (fun h => absurd h (by decide))
  refine ec (eo_u rfl (s_u (o_stO (c' := (⟨x6.key, x6.list, x6.prev, x4.next⟩ : ring_slot)) 3 sc3 rfl rfl rfl hx6 rfl rfl rfl)) (Le.refl _) ?_) en
  refine stage_ext [(27, pt (sb g0_.slots) (so g0_.slots + x4.next.toNat * 4)), (28, pt (sb g0_.slots) (so g0_.slots + x4.next.toNat * 4 + 2))] rfl ?_
  refine stage rfl rfl rfl rfl [0, 1, 3, 7, 0, 16, 48, 112, 0, 256, 768, 1792, 0, 4096, 12288, 28672, 0, 65536, 196608, 458752, 0, 1048576, 3145728, 7340032, 16777215, 33554431, 67108863, 134217727, 268435455, 536870911] [27, 28] [29] rfl rfl rfl (qc rfl rfl (s_u (o_ixO 0 Try.underlying164 (fun _ => by kernel_rfl) rfl rfl rfl hx8)) (qc rfl rfl (s_u (o_fa fa170_2 rfl)) qn)) ?_ (fun h => absurd h (by decide))
  refine ec (eo_u rfl (s_u (o_stO (c' := (⟨x8.key, x8.list, x4.prev, x8.next⟩ : ring_slot)) 2 sc3 rfl rfl rfl hx8 rfl rfl rfl)) (Le.refl _) ?_) en
  refine stage rfl rfl rfl rfl [0, 1, 3, 7, 0, 16, 48, 112, 0, 256, 768, 1792, 0, 4096, 12288, 28672, 0, 65536, 196608, 458752, 0, 1048576, 3145728, 7340032, 16777215, 33554431, 67108863, 134217727, 268435455, 536870911] [] [] rfl rfl rfl qn en ?_
  intro _
  refine ex_sub (E' := [(0, pt b0_ 0), (4, pt (sb g0_.slots) (so g0_.slots + a1.toNat * 4))]) ⟨rfl, rfl, trivial⟩ ?_
  refine x_seq ?_
  obtain ⟨x10, hx10, hm11⟩ := bs hm9
  obtain ⟨x12, hx12, hm13⟩ := bs hm11
  refine c_any mixed (effs := [12]) (V := []) ?_
  refine stage_st (fun _ h => st_pk 5 [4, 0, 1, 2, 3] (by decide) h) ?_
  refine stage_ext [(0, pt b0_ 0), (1, pt b0_ 0), (2, pt b0_ 4), (3, g0_.many), (4, pt (sb g0_.slots) (so g0_.slots + a1.toNat * 4)), (5, pt (sb g0_.slots) (so g0_.slots + a1.toNat * 4)), (6, pt (sb g0_.slots) (so g0_.slots + a1.toNat * 4 + 1)), (7, vI x10.list), (8, pt (sb g0_.many) (so g0_.many + x10.list.toNat * 1)), (9, vI x12), (10, vI (i64 (x12 - 1))), (11, pt (sb g0_.many) (so g0_.many + x10.list.toNat * 1))] rfl ?_
  refine stage rfl rfl rfl rfl [0, 1, 3, 7, 0, 16, 48, 112, 255, 511, 1023, 2047, 4095] [0, 1, 2, 3, 4, 5, 6, 7, 8, 9, 10, 11] [12] rfl rfl rfl (qc rfl rfl (s_u (o_mv rfl)) (qc rfl rfl (s_u (o_nc rfl)) (qc rfl rfl (s_u (o_fa fa168_4 rfl)) (qc rfl rfl (s_u (o_ld 2 sc165 rfl rfl rfl)) (qc rfl rfl (s_u (o_mv rfl)) (qc rfl rfl (s_u (o_nc rfl)) (qc rfl rfl (s_u (o_fa fa170_1 rfl)) (qc rfl rfl (s_u (o_ldO 1 1 sc3 rfl rfl hx10 rfl rfl)) (qc rfl rfl (s_u (o_ixO 0 Try.underlying165 (fun _ => by kernel_rfl) rfl rfl rfl hx12)) (qc rfl rfl (s_u (o_ldO0 0 sc3 rfl rfl hx12 rfl rfl)) (qc rfl rfl (s_u (o_bin rfl rfl (bI_sub x12 1))) (qc rfl rfl (s_u (o_ixO 0 Try.underlying165 (fun _ => by kernel_rfl) rfl rfl rfl hx12)) qn)))))))))))) ?_ (fun h => absurd h (by decide))
  refine ec (eo_u rfl (s_u (o_stO0 (c' := i64 (x12 - 1)) sc3 rfl rfl rfl hx12 rfl rfl rfl)) (Le.refl _) ?_) en
  refine stage rfl rfl rfl rfl [0, 1, 3, 7, 0, 16, 48, 112, 255, 511, 1023, 2047, 4095] [] [] rfl rfl rfl qn en ?_
  intro _
  refine ex_sub (E' := []) trivial ?_
  refine x_end ?_
  obtain rfl := Option.some.inj hm13
  refine ex_st (fun _ h => st_pk 5 [2, 1, 3, 4, 0] (by decide) h) ?_
  exact x_r0 rfl (Le.refl _) ⟨_, rfl, rfl, rfl, rfl⟩

def ring_Rings_link (a0 : ring_Rings) (a1 : Int) (a2 : Int) : Option ring_Rings :=
  (gi a0.slots a1).bind fun x4 => (gi a0.slots a2).bind fun x6 => (gi (ls a0.slots a1 (⟨x4.key, a2, x4.prev, x4.next⟩ : ring_slot)) a1).bind fun x8 => (gi (ls (ls a0.slots a1 (⟨x4.key, a2, x4.prev, x4.next⟩ : ring_slot)) a1 (⟨x8.key, x8.list, a2, x8.next⟩ : ring_slot)) a1).bind fun x10 => (gi (ls (ls (ls a0.slots a1 (⟨x4.key, a2, x4.prev, x4.next⟩ : ring_slot)) a1 (⟨x8.key, x8.list, a2, x8.next⟩ : ring_slot)) a1 (⟨x10.key, x10.list, x10.prev, x6.next⟩ : ring_slot)) a1).bind fun x12 => (gi (ls (ls (ls a0.slots a1 (⟨x4.key, a2, x4.prev, x4.next⟩ : ring_slot)) a1 (⟨x8.key, x8.list, a2, x8.next⟩ : ring_slot)) a1 (⟨x10.key, x10.list, x10.prev, x6.next⟩ : ring_slot)) x12.next).bind fun x14 => (gi (ls (ls (ls (ls a0.slots a1 (⟨x4.key, a2, x4.prev, x4.next⟩ : ring_slot)) a1 (⟨x8.key, x8.list, a2, x8.next⟩ : ring_slot)) a1 (⟨x10.key, x10.list, x10.prev, x6.next⟩ : ring_slot)) x12.next (⟨x14.key, x14.list, a1, x14.next⟩ : ring_slot)) a2).bind fun x16 => (gi a0.many a2).bind fun x18 => some (⟨a0.lists, ls (ls (ls (ls (ls a0.slots a1 (⟨x4.key, a2, x4.prev, x4.next⟩ : ring_slot)) a1 (⟨x8.key, x8.list, a2, x8.next⟩ : ring_slot)) a1 (⟨x10.key, x10.list, x10.prev, x6.next⟩ : ring_slot)) x12.next (⟨x14.key, x14.list, a1, x14.next⟩ : ring_slot)) a2 (⟨x16.key, x16.list, x16.prev, a1⟩ : ring_slot), a0.free, a0.at_, ls a0.many a2 (i64 (x18 + 1))⟩ : ring_Rings)
theorem ring_Rings_link.ok {G R F} (b0_ : Nat) (a0 : ring_Rings) (g0_ : ring_Rings.G) (a1 : Int) (a2 : Int) (r : ring_Rings) (hm : ring_Rings_link a0 a1 a2 = some r) : CO Try.prog 125 [pt b0_ 0, vI a1, vI a2] G R (Bk b0_ 168 [vI a0.lists, g0_.slots, g0_.free, g0_.at_, g0_.many] :: OwS true 170 4 ring_slot.c g0_.slots a0.slots :: OwS true 3 1 eI g0_.free a0.free :: OwM vS vI g0_.at_ a0.at_ :: OwS true 3 1 eI g0_.many a0.many :: F)
    (Ret fun u R' L' => u = .tuple #[] ∧ R' = R ∧ L' = Bk b0_ 168 [vI r.lists, g0_.slots, g0_.free, g0_.at_, g0_.many] :: OwS true 170 4 ring_slot.c g0_.slots r.slots :: OwS true 3 1 eI g0_.free r.free :: OwM vS vI g0_.at_ r.at_ :: OwS true 3 1 eI g0_.many r.many :: F) := by
  unfold ring_Rings_link at hm
  refine co_ofN (N := 60) Try.func125 rfl rfl ?_
  refine c_seq ?_
  refine c_reg ?_
  refine r_u (o_mv rfl) ?_
  refine r_u (o_nc rfl) ?_
  refine r_u (o_fa fa168_1 rfl) ?_
  refine r_u (o_ld 0 sc164 rfl rfl rfl) ?_
  refine r_u (o_mv rfl) ?_
  obtain ⟨x4, hx4, hm5⟩ := bs hm
  refine r_u (o_ixO 1 Try.underlying164 (fun _ => by kernel_rfl) rfl rfl rfl hx4) ?_
  refine r_u (o_as rfl) ?_
  refine r_nil ?_
  refine x_seq ?_
  refine c_seq ?_
  refine c_reg ?_
  refine r_u (o_mv rfl) ?_
  refine r_u (o_mv rfl) ?_
  refine r_u (o_mv rfl) ?_
  refine r_u (o_mv rfl) ?_
  refine r_u (o_mv rfl) ?_
  refine r_u (o_mv rfl) ?_
  refine r_u (o_nc rfl) ?_
  refine r_u (o_fa fa168_1 rfl) ?_
  refine r_u (o_ld 0 sc164 rfl rfl rfl) ?_
  refine r_u (o_mv rfl) ?_
  obtain ⟨x6, hx6, hm7⟩ := bs hm5
  refine r_u (o_ixO 1 Try.underlying164 (fun _ => by kernel_rfl) rfl rfl rfl hx6) ?_
  refine r_u (o_fa fa170_3 rfl) ?_
  refine r_u (o_ldO 1 3 sc3 rfl rfl hx6 rfl rfl) ?_
  refine r_u (o_nc rfl) ?_
  refine r_u (o_fa fa170_1 rfl) ?_
  refine rl_st (fun _ h => st_pk 5 [1, 0, 2, 3, 4] (by decide) h) ?_
  refine r_u0 (o_stO (c' := (⟨x4.key, a2, x4.prev, x4.next⟩ : ring_slot)) 1 sc3 rfl rfl rfl hx4 rfl rfl rfl) ?_
  refine r_u (o_nc rfl) ?_
  refine r_u (o_fa fa170_2 rfl) ?_
  obtain ⟨x8, hx8, hm9⟩ := bs hm7
  refine r_u0 (o_stO (c' := (⟨x8.key, x8.list, a2, x8.next⟩ : ring_slot)) 2 sc3 rfl rfl rfl hx8 rfl rfl rfl) ?_
  refine r_u (o_nc rfl) ?_
  refine r_u (o_fa fa170_3 rfl) ?_
  obtain ⟨x10, hx10, hm11⟩ := bs hm9
  refine r_u0 (o_stO (c' := (⟨x10.key, x10.list, x10.prev, x6.next⟩ : ring_slot)) 3 sc3 rfl rfl rfl hx10 rfl rfl rfl) ?_
  refine r_nil ?_
  refine x_seq ?_
  refine c_seq ?_
  obtain ⟨x12, hx12, hm13⟩ := bs hm11
  obtain ⟨x14, hx14, hm15⟩ := bs hm13
  obtain ⟨x16, hx16, hm17⟩ := bs hm15
  refine c_any mixed (effs := [17, 20]) (V := []) ?_
  refine stage_ext [(0, pt b0_ 0), (1, pt b0_ 0), (2, pt b0_ 1), (3, g0_.slots), (4, pt (sb g0_.slots) (so g0_.slots + a1.toNat * 4)), (5, pt (sb g0_.slots) (so g0_.slots + a1.toNat * 4)), (6, pt (sb g0_.slots) (so g0_.slots + a1.toNat * 4 + 3)), (7, vI x12.next), (8, pt b0_ 0), (9, pt b0_ 0), (10, pt b0_ 1), (11, g0_.slots), (12, vI a2), (13, vI a1), (14, vI a1), (15, pt (sb g0_.slots) (so g0_.slots + x12.next.toNat * 4)), (16, pt (sb g0_.slots) (so g0_.slots + x12.next.toNat * 4 + 2))] rfl ?_
  refine stage rfl rfl rfl rfl [0, 1, 3, 7, 0, 16, 48, 112, 0, 256, 768, 1792, 0, 0, 0, 12287, 45055, 110591, 262143, 524287, 1048575] [0, 1, 2, 3, 4, 5, 6, 7, 8, 9, 10, 11, 12, 13, 14, 15, 16] [17] rfl rfl rfl (qc rfl rfl (s_u (o_mv rfl)) (qc rfl rfl (s_u (o_nc rfl)) (qc rfl rfl (s_u (o_fa fa168_1 rfl)) (qc rfl rfl (s_u (o_ld 1 sc164 rfl rfl rfl)) (qc rfl rfl (s_u (o_mv rfl)) (qc rfl rfl (s_u (o_nc rfl)) (qc rfl rfl (s_u (o_fa fa170_3 rfl)) (qc rfl rfl (s_u (o_ldO 0 3 sc3 rfl rfl hx12 rfl rfl)) (qc rfl rfl (s_u (o_mv rfl)) (qc rfl rfl (s_u (o_nc rfl)) (qc rfl rfl (s_u (o_fa fa168_1 rfl)) (qc rfl rfl (s_u (o_ld 1 sc164 rfl rfl rfl)) (qc rfl rfl (s_u (o_mv rfl)) (qc rfl rfl (s_u (o_mv rfl)) (qc rfl rfl (s_u (o_mv rfl)) (qc rfl rfl (s_u (o_ixO 0 Try.underlying164 (fun _ => by kernel_rfl) rfl rfl rfl hx14)) (qc rfl rfl (s_u (o_fa fa170_2 rfl)) qn))))))))))))))))) ?_ (fun h => absurd h (by decide))
  refine ec (eo_u rfl (s_u (o_stO (c' := (⟨x14.key, x14.list, a1, x14.next⟩ : ring_slot)) 2 sc3 rfl rfl rfl hx14 rfl rfl rfl)) (Le.refl _) ?_) en
  refine stage_ext [(18, pt (sb g0_.slots) (so g0_.slots + a2.toNat * 4)), (19, pt (sb g0_.slots) (so g0_.slots + a2.toNat * 4 + 3))] rfl ?_
  refine stage rfl rfl rfl rfl [0, 1, 3, 7, 0, 16, 48, 112, 0, 256, 768, 1792, 0, 0, 0, 12287, 45055, 110591, 262143, 524287, 1048575] [12, 14, 18, 19] [20] rfl rfl rfl (qc rfl rfl (s_u (o_mv rfl)) (qc rfl rfl (s_u (o_mv rfl)) (qc rfl rfl (s_u (o_ixO 0 Try.underlying164 (fun _ => by kernel_rfl) rfl rfl rfl hx16)) (qc rfl rfl (s_u (o_fa fa170_3 rfl)) qn)))) ?_ (fun h => absurd h (by decide))
  refine ec (eo_u rfl (s_u (o_stO (c' := (⟨x16.key, x16.list, x16.prev, a1⟩ : ring_slot)) 3 sc3 rfl rfl rfl hx16 rfl rfl rfl)) (Le.refl _) ?_) en
  refine stage rfl rfl rfl rfl [0, 1, 3, 7, 0, 16, 48, 112, 0, 256, 768, 1792, 0, 0, 0, 12287, 45055, 110591, 262143, 524287, 1048575] [] [] rfl rfl rfl qn en ?_
  intro _
  refine ex_sub (E' := [(0, pt b0_ 0), (2, vI a2)]) ⟨rfl, rfl, trivial⟩ ?_
  refine x_seq ?_
  refine c_reg ?_
  refine r_u (o_mv rfl) ?_
  refine r_u (o_nc rfl) ?_
  refine r_u (o_fa fa168_4 rfl) ?_
  refine r_u (o_ld 1 sc165 rfl rfl rfl) ?_
  refine r_u (o_mv rfl) ?_
  obtain ⟨x18, hx18, hm19⟩ := bs hm17
  refine r_u (o_ixO 4 Try.underlying165 (fun _ => by kernel_rfl) rfl rfl rfl hx18) ?_
  refine r_u (o_ldO0 4 sc3 rfl rfl hx18 rfl rfl) ?_
  refine r_u (o_bin rfl rfl (bI_add x18 1)) ?_
  refine r_u (o_ixO 4 Try.underlying165 (fun _ => by kernel_rfl) rfl rfl rfl hx18) ?_
  refine rl_st (fun _ h => st_pk 5 [4, 0, 1, 2, 3] (by decide) h) ?_
  refine r_u0 (o_stO0 (c' := i64 (x18 + 1)) sc3 rfl rfl rfl hx18 rfl rfl rfl) ?_
  refine r_nil ?_
  refine x_end ?_
  obtain rfl := Option.some.inj hm19
  refine ex_st (fun _ h => st_pk 5 [2, 1, 3, 4, 0] (by decide) h) ?_
  exact x_r0 rfl (Le.refl _) ⟨_, rfl, rfl, rfl, rfl⟩

def ring_Rings_Front (a0 : ring_Rings) (a1 : Int) (a2 : Str) : Option (Bool × ring_Rings) :=
  if (!(ring_Rings_is a0 a1) || decide (64 < (a2.length : Int))) then some (false, a0) else if (mget a0.at_ a2).isSome then (ring_Rings_cut a0 ((mget a0.at_ a2).getD (0 : Int))).bind fun r8 => (ring_Rings_link r8 ((mget a0.at_ a2).getD (0 : Int)) a1).bind fun r10 => some (true, r10) else if ((a0.free.length : Int) == 0) then some (false, a0) else (gi a0.free (i64 ((a0.free.length : Int) - 1))).bind fun x14 => (sl a0.free 0 (i64 ((a0.free.length : Int) - 1))).bind fun l16 => (gi a0.slots x14).bind fun x18 => (ring_Rings_link (⟨a0.lists, ls a0.slots x14 (⟨a2, x18.list, x18.prev, x18.next⟩ : ring_slot), l16, mput a0.at_ a2 x14, a0.many⟩ : ring_Rings) x14 a1).bind fun r20 => some (true, r20)
theorem ring_Rings_Front.ok {G R F} (b0_ : Nat) (a0 : ring_Rings) (g0_ : ring_Rings.G) (a1 : Int) (a2 : Str) (r : Bool × ring_Rings) (hm : ring_Rings_Front a0 a1 a2 = some r) : CO Try.prog 105 [pt b0_ 0, vI a1, vS a2] G R (Bk b0_ 168 [vI a0.lists, g0_.slots, g0_.free, g0_.at_, g0_.many] :: OwS true 170 4 ring_slot.c g0_.slots a0.slots :: OwS true 3 1 eI g0_.free a0.free :: OwM vS vI g0_.at_ a0.at_ :: OwS true 3 1 eI g0_.many a0.many :: F)
    (Ret fun u R' L' => ∃ (q0 : ring_Rings.G), u = vB r.1 ∧ R' = R ∧ L' = Bk b0_ 168 [vI r.2.lists, q0.slots, q0.free, q0.at_, q0.many] :: OwS true 170 4 ring_slot.c q0.slots r.2.slots :: OwS true 3 1 eI q0.free r.2.free :: OwM vS vI q0.at_ r.2.at_ :: OwS true 3 1 eI q0.many r.2.many :: F) := by
  unfold ring_Rings_Front at hm
  refine co_ofN (N := 80) Try.func105 rfl rfl ?_
  refine c_seq ?_
  refine c_reg ?_
  refine r_u (o_as rfl) ?_
  refine r_nil ?_
  refine x_seq ?_
  refine c_seq ?_
  refine c_seq ?_
  refine c_reg ?_
  refine r_u (o_mv rfl) ?_
  refine r_u (o_mv rfl) ?_
  refine r_c (s_w (o_call ca124 rfl (ring_Rings_is.ok b0_ a0 g0_ a1 _ rfl))) ?_
  refine r_u (o_not rfl) ?_
  refine r_u (o_mv rfl) ?_
  refine r_s (s_gf rfl rfl fun g => o_mv rfl) ?_
  refine r_s (s_gf rfl rfl fun g => o_lenS Try.underlying9 (evg rfl g)) ?_
  refine r_s (s_gf rfl rfl fun g => o_bin (evg rfl g) rfl (bI_gt (a2.length : Int) 64)) ?_
  refine r_u (o_or rfl rfl) ?_
  refine r_nil ?_
  refine x_seq ?_
  refine c_if (b := (!(ring_Rings_is a0 a1) || decide (64 < (a2.length : Int)))) rfl (fun h4 => ?_) fun h4 => ?_
  · have hm5 := ift hm h4
    refine c_seq ?_
    refine c_reg ?_
    refine r_u (o_as rfl) ?_
    refine r_nil ?_
    refine x_seq ?_
    refine c_ret ?_
    obtain rfl := Option.some.inj hm5
    exact x_r1 rfl (rv_t rfl) (Le.refl _) ⟨_, rfl, g0_, rfl, rfl, rfl⟩
  · have hm5 := iff_ hm h4
    refine c_skip ?_
    refine x_seq ?_
    refine c_seq ?_
    refine c_seq ?_
    refine c_reg ?_
    refine r_u (o_mv rfl) ?_
    refine r_u (o_nc rfl) ?_
    refine r_u (o_fa fa168_3 rfl) ?_
    refine r_u (o_ld 0 sc166 rfl rfl rfl) ?_
    refine r_u (o_mv rfl) ?_
    refine r_u (o_lk (kv := vS) (vv := vI) (key := a2) (z0 := (0 : Int)) 3 Try.underlying166 (kok_S Try.underlying9) (fun _ => by kernel_rfl) rfl rfl rfl) ?_
    refine r_u (o_mv rfl) ?_
    refine r_u (o_ext rfl rfl) ?_
    refine r_u (o_ext rfl rfl) ?_
    refine r_u (o_as rfl) ?_
    refine r_u (o_as rfl) ?_
    refine r_nil ?_
    refine x_seq ?_
    refine c_seq ?_
    refine c_reg ?_
    refine r_u (o_mv rfl) ?_
    refine r_nil ?_
    refine x_seq ?_
    refine c_if (b := (mget a0.at_ a2).isSome) rfl (fun h6 => ?_) fun h6 => ?_
    · have hm7 := ift hm5 h6
      refine c_seq ?_
      refine c_reg ?_
      refine r_u (o_mv rfl) ?_
      refine r_u (o_mv rfl) ?_
      obtain ⟨r8, hr8, hm9⟩ := bs hm7
      refine r_c (s_w (o_call ca123 rfl (ring_Rings_cut.ok b0_ a0 g0_ ((mget a0.at_ a2).getD (0 : Int)) r8 hr8))) ?_
      refine r_nil ?_
      refine x_seq ?_
      refine c_seq ?_
      refine c_reg ?_
      refine r_u (o_mv rfl) ?_
      refine r_u (o_mv rfl) ?_
      refine r_u (o_mv rfl) ?_
      obtain ⟨r10, hr10, hm11⟩ := bs hm9
      refine r_c (s_w (o_call ca125 rfl (ring_Rings_link.ok b0_ r8 g0_ ((mget a0.at_ a2).getD (0 : Int)) a1 r10 hr10))) ?_
      refine r_nil ?_
      refine x_seq ?_
      refine c_seq ?_
      refine c_reg ?_
      refine r_u (o_as rfl) ?_
      refine r_nil ?_
      refine x_seq ?_
      refine c_ret ?_
      obtain rfl := Option.some.inj hm11
      exact x_r1 rfl (rv_t rfl) (Le.refl _) ⟨_, rfl, g0_, rfl, rfl, rfl⟩
    · have hm7 := iff_ hm5 h6
      refine c_skip ?_
      refine x_seq ?_
      refine c_seq ?_
      refine c_reg ?_
      refine r_u (o_mv rfl) ?_
      refine r_u (o_nc rfl) ?_
      refine r_u (o_fa fa168_2 rfl) ?_
      refine r_u (o_ld 0 sc165 rfl rfl rfl) ?_
      refine r_u (o_lenO 2 Try.underlying165 rfl rfl) ?_
      refine r_u (o_as rfl) ?_
      refine r_nil ?_
      refine x_seq ?_
      refine c_seq ?_
      refine c_seq ?_
      refine c_reg ?_
      refine r_u (o_mv rfl) ?_
      refine r_u (o_bin rfl rfl (bI_eq (a0.free.length : Int) 0)) ?_
      refine r_nil ?_
      refine x_seq ?_
      refine c_if (b := ((a0.free.length : Int) == 0)) rfl (fun h12 => ?_) fun h12 => ?_
      · have hm13 := ift hm7 h12
        refine c_seq ?_
        refine c_reg ?_
        refine r_u (o_as rfl) ?_
        refine r_nil ?_
        refine x_seq ?_
        refine c_ret ?_
        obtain rfl := Option.some.inj hm13
        exact x_r1 rfl (rv_t rfl) (Le.refl _) ⟨_, rfl, g0_, rfl, rfl, rfl⟩
      · have hm13 := iff_ hm7 h12
        refine c_skip ?_
        refine x_seq ?_
        refine c_seq ?_
        refine c_reg ?_
        refine r_u (o_mv rfl) ?_
        refine r_u (o_nc rfl) ?_
        refine r_u (o_fa fa168_2 rfl) ?_
        refine r_u (o_ld 0 sc165 rfl rfl rfl) ?_
        refine r_u (o_mv rfl) ?_
        refine r_u (o_bin rfl rfl (bI_sub (a0.free.length : Int) 1)) ?_
        obtain ⟨x14, hx14, hm15⟩ := bs hm13
        refine r_u (o_ixO 2 Try.underlying165 (fun _ => by kernel_rfl) rfl rfl rfl hx14) ?_
        refine r_u (o_ldO0 2 sc3 rfl rfl hx14 rfl rfl) ?_
        refine r_u (o_as rfl) ?_
        refine r_nil ?_
        refine x_seq ?_
        refine c_seq ?_
        refine c_reg ?_
        refine r_u (o_mv rfl) ?_
        refine r_u (o_mv rfl) ?_
        refine r_u (o_nc rfl) ?_
        refine r_u (o_fa fa168_2 rfl) ?_
        refine r_u (o_ld 0 sc165 rfl rfl rfl) ?_
        refine r_u (o_mv rfl) ?_
        refine r_u (o_bin rfl rfl (bI_sub (a0.free.length : Int) 1)) ?_
        obtain ⟨l16, hl16, hm17⟩ := bs hm15
        refine rl_st (fun _ h => st_pk 5 [2, 0, 1, 3, 4] (by decide) h) ?_
        refine r_u (o_slO Try.underlying165 (fun _ => by kernel_rfl) rfl rfl rfl hl16) ?_
        refine r_u (o_nc rfl) ?_
        refine r_u (o_fa fa168_2 rfl) ?_
        refine rl_st (fun _ h => st_pk 5 [1, 0, 2, 3, 4] (by decide) h) ?_
        refine r_u0 (ou_if (one_o 1 rfl) fun ho0 => o_st sc165 rfl rfl rfl ho0 rfl rfl) ?_
        refine r_nil ?_
        refine x_seq ?_
        refine c_seq ?_
        refine c_reg ?_
        refine r_u (o_mv rfl) ?_
        refine r_u (o_nc rfl) ?_
        refine r_u (o_fa fa168_1 rfl) ?_
        refine r_u (o_ld 0 sc164 rfl rfl rfl) ?_
        refine r_u (o_mv rfl) ?_
        refine r_u (o_mv rfl) ?_
        obtain ⟨x18, hx18, hm19⟩ := bs hm17
        refine r_u (o_ixO 2 Try.underlying164 (fun _ => by kernel_rfl) rfl rfl rfl hx18) ?_
        refine r_u (o_fa fa170_0 rfl) ?_
        refine rl_st (fun _ h => st_pk 5 [2, 0, 1, 3, 4] (by decide) h) ?_
        refine r_u0 (o_stO0 (c' := (⟨a2, x18.list, x18.prev, x18.next⟩ : ring_slot)) sc9 rfl rfl rfl hx18 rfl rfl rfl) ?_
        refine r_nil ?_
        refine x_seq ?_
        refine c_seq ?_
        refine c_reg ?_
        refine r_u (o_mv rfl) ?_
        refine r_u (o_nc rfl) ?_
        refine r_u (o_fa fa168_3 rfl) ?_
        refine r_u (o_ld 1 sc166 rfl rfl rfl) ?_
        refine r_u (o_mv rfl) ?_
        refine r_u (o_mv rfl) ?_
        refine rl_st (fun _ h => st_pk 5 [3, 0, 1, 2, 4] (by decide) h) ?_
        refine r_u0 (o_mu (kv := vS) (vv := vI) (key := a2) (val := x14) Try.underlying166 (kok_S Try.underlying9) rfl rfl rfl rfl) ?_
        refine r_nil ?_
        refine x_seq ?_
        refine c_seq ?_
        refine c_reg ?_
        refine r_u (o_mv rfl) ?_
        refine r_u (o_mv rfl) ?_
        refine r_u (o_mv rfl) ?_
        obtain ⟨r20, hr20, hm21⟩ := bs hm19
        refine rl_st (fun _ h => st_pk 5 [2, 1, 3, 0, 4] (by decide) h) ?_
        refine r_c (s_w (o_call ca125 rfl (ring_Rings_link.ok b0_ (⟨a0.lists, ls a0.slots x14 (⟨a2, x18.list, x18.prev, x18.next⟩ : ring_slot), l16, mput a0.at_ a2 x14, a0.many⟩ : ring_Rings) (⟨g0_.slots, (sh g0_.free (i64 ((a0.free.length : Int) - 1)).toNat), g0_.at_, g0_.many⟩ : ring_Rings.G) x14 a1 r20 hr20))) ?_
        refine r_nil ?_
        refine x_seq ?_
        refine c_seq ?_
        refine c_reg ?_
        refine r_u (o_as rfl) ?_
        refine r_nil ?_
        refine x_seq ?_
        refine c_ret ?_
        obtain rfl := Option.some.inj hm21
        exact x_r1 rfl (rv_t rfl) (Le.refl _) ⟨_, rfl, (⟨g0_.slots, (sh g0_.free (i64 ((a0.free.length : Int) - 1)).toNat), g0_.at_, g0_.many⟩ : ring_Rings.G), rfl, rfl, rfl⟩

def arc_Arc_Touch (a0 : arc_Arc) (a1 : Str) : Option (Bool × arc_Arc) :=
  (arc_Arc_Has a0 a1).bind fun r3 => if !r3 then some (false, a0) else om a0.r (none) fun x7 => (ring_Rings_Front x7 1 a1).bind fun r15 => some (r15.1, (⟨a0.most, a0.target, (some r15.2)⟩ : arc_Arc))
theorem arc_Arc_Touch.ok {G R F} (b0_ : Nat) (a0 : arc_Arc) (g0_ : arc_Arc.G) (a1 : Str) (r : Bool × arc_Arc) (hm : arc_Arc_Touch a0 a1 = some r) : CO Try.prog 62 [pt b0_ 0, vS a1] G R (Bk b0_ 144 [vI a0.most, vI a0.target, g0_.r.1] :: rO (ring_Rings.op g0_.r.2) g0_.r.1 a0.r :: F)
    (Ret fun u R' L' => ∃ (q0 : arc_Arc.G), u = vB r.1 ∧ R' = R ∧ L' = Bk b0_ 144 [vI r.2.most, vI r.2.target, q0.r.1] :: rO (ring_Rings.op q0.r.2) q0.r.1 r.2.r :: F) := by
  obtain ⟨⟨pv1, g2⟩⟩ := g0_
  unfold arc_Arc_Touch at hm
  refine co_ofN (N := 15) Try.func62 rfl rfl ?_
  refine c_seq ?_
  refine c_reg ?_
  refine r_u (o_as rfl) ?_
  refine r_nil ?_
  refine x_seq ?_
  refine c_seq ?_
  refine c_seq ?_
  refine c_reg ?_
  refine r_u (o_mv rfl) ?_
  refine r_u (o_mv rfl) ?_
  obtain ⟨r3, hr3, hm4⟩ := bs hm
  refine r_c (s_w (o_call ca59 rfl (arc_Arc_Has.ok b0_ a0 (⟨(pv1, g2)⟩ : arc_Arc.G) a1 r3 hr3))) ?_
  refine r_u (o_not rfl) ?_
  refine r_nil ?_
  refine x_seq ?_
  refine c_if (b := !r3) rfl (fun h5 => ?_) fun h5 => ?_
  · have hm6 := ift hm4 h5
    refine c_seq ?_
    refine c_reg ?_
    refine r_u (o_as rfl) ?_
    refine r_nil ?_
    refine x_seq ?_
    refine c_ret ?_
    obtain rfl := Option.some.inj hm6
    exact x_r1 rfl (rv_t rfl) (Le.refl _) ⟨_, rfl, (⟨(pv1, g2)⟩ : arc_Arc.G), rfl, rfl, rfl⟩
  · have hm6 := iff_ hm4 h5
    refine c_skip ?_
    refine x_seq ?_
    refine c_seq ?_
    refine cd_st (fun _ h => st_pk 2 [1, 0] (by decide) h) ?_
    refine cd_opt (fun ho9 => ?_) (fun x7 b8 ho9 => ?_)
    · rintro rfl
      have hm10 := om_n hm6 ho9
      cases hm10
    · rintro rfl
      have hm10 := om_s hm6 ho9
      refine cd_st (fun _ h => st_star_o h) ?_
      refine c_reg ?_
      refine r_u (o_mv rfl) ?_
      refine r_u (o_nc rfl) ?_
      refine r_u (o_fa fa144_2 rfl) ?_
      refine r_u (o_ld 5 sc135 rfl rfl rfl) ?_
      refine r_u (o_mv rfl) ?_
      obtain ⟨r15, hr15, hm21⟩ := bs hm10
      refine r_sw (s_w (o_call ca105 rfl (ring_Rings_Front.ok b8 x7 g2 1 a1 r15 hr15))) ?_
      rintro _ R _ _ ⟨g16, rfl, rfl, rfl⟩
      refine r_u (o_as rfl) ?_
      refine r_nil ?_
      refine x_seq ?_
      refine c_ret ?_
      refine ex_st (fun _ h => st_some (f := ring_Rings.op g16) (a := r15.2) (st_star_f (A := ring_Rings.fl b8 r15.2 g16) h)) ?_
      obtain rfl := Option.some.inj hm21
      refine ex_st (fun _ h => st_pk 2 [1, 0] (by decide) h) ?_
      exact x_r1 rfl (rv_t rfl) (Le.refl _) ⟨_, rfl, (⟨(pt b8 0, g16)⟩ : arc_Arc.G), rfl, rfl, rfl⟩

def ring_Rings_Len (a0 : ring_Rings) (a1 : Int) : Option Int :=
  if !(ring_Rings_is a0 a1) then some 0 else (gi a0.many a1).bind fun x6 => some x6
theorem ring_Rings_Len.ok {G R F} (b0_ : Nat) (a0 : ring_Rings) (g0_ : ring_Rings.G) (a1 : Int) (r : Int) (hm : ring_Rings_Len a0 a1 = some r) : CO Try.prog 104 [pt b0_ 0, vI a1] G R (Bk b0_ 168 [vI a0.lists, g0_.slots, g0_.free, g0_.at_, g0_.many] :: OwS true 170 4 ring_slot.c g0_.slots a0.slots :: OwS true 3 1 eI g0_.free a0.free :: OwM vS vI g0_.at_ a0.at_ :: OwS true 3 1 eI g0_.many a0.many :: F)
    (Ret fun u R' L' => u = vI r ∧ R' = R ∧ L' = Bk b0_ 168 [vI a0.lists, g0_.slots, g0_.free, g0_.at_, g0_.many] :: OwS true 170 4 ring_slot.c g0_.slots a0.slots :: OwS true 3 1 eI g0_.free a0.free :: OwM vS vI g0_.at_ a0.at_ :: OwS true 3 1 eI g0_.many a0.many :: F) := by
  unfold ring_Rings_Len at hm
  refine co_ofN (N := 16) Try.func104 rfl rfl ?_
  refine c_seq ?_
  refine c_reg ?_
  refine r_u (o_as rfl) ?_
  refine r_nil ?_
  refine x_seq ?_
  refine c_seq ?_
  refine c_seq ?_
  refine c_reg ?_
  refine r_u (o_mv rfl) ?_
  refine r_u (o_mv rfl) ?_
  refine r_c (s_w (o_call ca124 rfl (ring_Rings_is.ok b0_ a0 g0_ a1 _ rfl))) ?_
  refine r_u (o_not rfl) ?_
  refine r_nil ?_
  refine x_seq ?_
  refine c_if (b := !(ring_Rings_is a0 a1)) rfl (fun h4 => ?_) fun h4 => ?_
  · have hm5 := ift hm h4
    refine c_seq ?_
    refine c_reg ?_
    refine r_u (o_as rfl) ?_
    refine r_nil ?_
    refine x_seq ?_
    refine c_ret ?_
    obtain rfl := Option.some.inj hm5
    exact x_r1 rfl (rv_t rfl) (Le.refl _) ⟨_, rfl, rfl, rfl, rfl⟩
  · have hm5 := iff_ hm h4
    refine c_skip ?_
    refine x_seq ?_
    refine c_seq ?_
    refine c_reg ?_
    refine r_u (o_mv rfl) ?_
    refine r_u (o_nc rfl) ?_
    refine r_u (o_fa fa168_4 rfl) ?_
    refine r_u (o_ld 0 sc165 rfl rfl rfl) ?_
    refine r_u (o_mv rfl) ?_
    obtain ⟨x6, hx6, hm7⟩ := bs hm5
    refine r_u (o_ixO 4 Try.underlying165 (fun _ => by kernel_rfl) rfl rfl rfl hx6) ?_
    refine r_u (o_ldO0 4 sc3 rfl rfl hx6 rfl rfl) ?_
    refine r_u (o_as rfl) ?_
    refine r_nil ?_
    refine x_seq ?_
    refine c_ret ?_
    obtain rfl := Option.some.inj hm7
    exact x_r1 rfl (rv_t rfl) (Le.refl _) ⟨_, rfl, rfl, rfl, rfl⟩

end Go.Proofs.Ythngfieikhillaa
