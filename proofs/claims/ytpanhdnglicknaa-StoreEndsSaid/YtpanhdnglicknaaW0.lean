import Derived.Test.YtpanhdnglicknaaFacts
import Derived.Test.YtpanhdnglicknaaHwZ
set_option linter.unusedVariables false
set_option linter.unusedSectionVars false
set_option linter.unusedSimpArgs false
set_option maxRecDepth 100000
set_option maxHeartbeats 8000000
namespace Go.Proofs.Ytpanhdnglicknaa
open Go Go.Proofs.Ytpanhdnglicknaa.Hw
structure api_Config where
  Policy : Int
  Entries : Int
  Bytes : Int
  Seed : UInt64
  deriving DecidableEq, Inhabited
def api_Config.c (x : api_Config) : List _root_.Go.Value := [vI x.Policy, vI x.Entries, vI x.Bytes, vW x.Seed]
abbrev api_Config.v (x : api_Config) : _root_.Go.Value := .agg (api_Config.c x).toArray
structure api_Entry where
  Key : Str
  Value : Str
  Version : UInt64
  End : UInt64
  deriving DecidableEq, Inhabited
def api_Entry.c (x : api_Entry) : List _root_.Go.Value := [vS x.Key, vS x.Value, vW x.Version, vW x.End]
abbrev api_Entry.v (x : api_Entry) : _root_.Go.Value := .agg (api_Entry.c x).toArray
structure table_Table where
  m : List (Str × api_Entry)
  bytes : Int
  deriving DecidableEq, Inhabited
structure table_Table.G where
  m : _root_.Go.Value

instance : Inhabited table_Table.G := ⟨⟨nl⟩⟩
def table_Table.fl (b : Nat) (x : table_Table) (g : table_Table.G) : List HP := [Bk b 79 [g.m, vI x.bytes], OwM vS api_Entry.v g.m x.m]
def table_Table.op (g : table_Table.G) : Nat → table_Table → HP := fun b x => star (table_Table.fl b x g)
structure ring_slot where
  key : Str
  list : Int
  prev : Int
  next : Int
  deriving DecidableEq, Inhabited
def ring_slot.c (x : ring_slot) : List _root_.Go.Value := [vS x.key, vI x.list, vI x.prev, vI x.next]
abbrev ring_slot.v (x : ring_slot) : _root_.Go.Value := .agg (ring_slot.c x).toArray
structure ring_Rings where
  lists : Int
  slots : List ring_slot
  free : List Int
  at_ : List (Str × Int)
  many : List Int
  deriving DecidableEq, Inhabited
structure ring_Rings.G where
  slots : _root_.Go.Value
  free : _root_.Go.Value
  at_ : _root_.Go.Value
  many : _root_.Go.Value

instance : Inhabited ring_Rings.G := ⟨⟨nl, nl, nl, nl⟩⟩
def ring_Rings.fl (b : Nat) (x : ring_Rings) (g : ring_Rings.G) : List HP := [Bk b 109 [vI x.lists, g.slots, g.free, g.at_, g.many], OwS true 111 4 ring_slot.c g.slots x.slots, OwS true 3 1 eI g.free x.free, OwM vS vI g.at_ x.at_, OwS true 3 1 eI g.many x.many]
def ring_Rings.op (g : ring_Rings.G) : Nat → ring_Rings → HP := fun b x => star (ring_Rings.fl b x g)
structure arc_Arc where
  most : Int
  target : Int
  r : Option ring_Rings
  deriving DecidableEq, Inhabited
structure arc_Arc.G where
  r : _root_.Go.Value × ring_Rings.G

instance : Inhabited arc_Arc.G := ⟨⟨(nl, default)⟩⟩
def arc_Arc.fl (b : Nat) (x : arc_Arc) (g : arc_Arc.G) : List HP := [Bk b 92 [vI x.most, vI x.target, g.r.1], rO (ring_Rings.op g.r.2) g.r.1 x.r]
def arc_Arc.op (g : arc_Arc.G) : Nat → arc_Arc → HP := fun b x => star (arc_Arc.fl b x g)
structure sketch_Sketch where
  wide : Int
  seed : UInt64
  rows : List (List UInt8)
  door : List Bool
  added : Int
  deriving DecidableEq, Inhabited
structure sketch_Sketch.G where
  rows : _root_.Go.Value × _root_.Go.Value × _root_.Go.Value × _root_.Go.Value
  door : _root_.Go.Value

instance : Inhabited sketch_Sketch.G := ⟨⟨(nl, nl, nl, nl), nl⟩⟩
def sketch_Sketch.fl (b : Nat) (x : sketch_Sketch) (g : sketch_Sketch.G) : List HP := [Bk b 116 [vI x.wide, vW x.seed, g.rows.1, g.rows.2.1, g.rows.2.2.1, g.rows.2.2.2, g.door, vI x.added], OwL (OwS false 5 1 eY) [g.rows.1, g.rows.2.1, g.rows.2.2.1, g.rows.2.2.2] x.rows, OwS true 4 1 eB g.door x.door]
def sketch_Sketch.op (g : sketch_Sketch.G) : Nat → sketch_Sketch → HP := fun b x => star (sketch_Sketch.fl b x g)
structure tiny_Tiny where
  most : Int
  s : Option sketch_Sketch
  r : Option ring_Rings
  deriving DecidableEq, Inhabited
structure tiny_Tiny.G where
  s : _root_.Go.Value × sketch_Sketch.G
  r : _root_.Go.Value × ring_Rings.G

instance : Inhabited tiny_Tiny.G := ⟨⟨(nl, default), (nl, default)⟩⟩
def tiny_Tiny.fl (b : Nat) (x : tiny_Tiny) (g : tiny_Tiny.G) : List HP := [Bk b 98 [vI x.most, g.s.1, g.r.1], rO (sketch_Sketch.op g.s.2) g.s.1 x.s, rO (ring_Rings.op g.r.2) g.r.1 x.r]
def tiny_Tiny.op (g : tiny_Tiny.G) : Nat → tiny_Tiny → HP := fun b x => star (tiny_Tiny.fl b x g)
structure policy_Policy where
  kind : Int
  a : Option arc_Arc
  t : Option tiny_Tiny
  deriving DecidableEq, Inhabited
structure policy_Policy.G where
  a : _root_.Go.Value × arc_Arc.G
  t : _root_.Go.Value × tiny_Tiny.G

instance : Inhabited policy_Policy.G := ⟨⟨(nl, default), (nl, default)⟩⟩
def policy_Policy.fl (b : Nat) (x : policy_Policy) (g : policy_Policy.G) : List HP := [Bk b 72 [vI x.kind, g.a.1, g.t.1], rO (arc_Arc.op g.a.2) g.a.1 x.a, rO (tiny_Tiny.op g.t.2) g.t.1 x.t]
def policy_Policy.op (g : policy_Policy.G) : Nat → policy_Policy → HP := fun b x => star (policy_Policy.fl b x g)
structure api_Reply where
  E : Int
  Value : Str
  Version : UInt64
  deriving DecidableEq, Inhabited
def api_Reply.c (x : api_Reply) : List _root_.Go.Value := [vI x.E, vS x.Value, vW x.Version]
abbrev api_Reply.v (x : api_Reply) : _root_.Go.Value := .agg (api_Reply.c x).toArray
structure store_last where
  num : UInt64
  reply : api_Reply
  deriving DecidableEq, Inhabited
def store_last.c (x : store_last) : List _root_.Go.Value := [vW x.num, vI x.reply.E, vS x.reply.Value, vW x.reply.Version]
abbrev store_last.v (x : store_last) : _root_.Go.Value := .agg (store_last.c x).toArray
structure api_Tally where
  Asked : Int
  Hits : Int
  deriving DecidableEq, Inhabited
def api_Tally.c (x : api_Tally) : List _root_.Go.Value := [vI x.Asked, vI x.Hits]
abbrev api_Tally.v (x : api_Tally) : _root_.Go.Value := .agg (api_Tally.c x).toArray
structure store_Store where
  c : api_Config
  t : Option table_Table
  p : Option policy_Policy
  sessions : List (UInt64 × store_last)
  seq : UInt64
  now : UInt64
  version : UInt64
  tally : api_Tally
  deriving DecidableEq, Inhabited
structure store_Store.G where
  t : _root_.Go.Value × table_Table.G
  p : _root_.Go.Value × policy_Policy.G
  sessions : _root_.Go.Value

instance : Inhabited store_Store.G := ⟨⟨(nl, default), (nl, default), nl⟩⟩
def store_Store.fl (b : Nat) (x : store_Store) (g : store_Store.G) : List HP := [Bk b 57 [vI x.c.Policy, vI x.c.Entries, vI x.c.Bytes, vW x.c.Seed, g.t.1, g.p.1, g.sessions, vW x.seq, vW x.now, vW x.version, vI x.tally.Asked, vI x.tally.Hits], rO (table_Table.op g.t.2) g.t.1 x.t, rO (policy_Policy.op g.p.2) g.p.1 x.p, OwM vW store_last.v g.sessions x.sessions]
def store_Store.op (g : store_Store.G) : Nat → store_Store → HP := fun b x => star (store_Store.fl b x g)
structure api_Op where
  Kind : Int
  Key : Str
  Value : Str
  TTL : UInt64
  Version : UInt64
  deriving DecidableEq, Inhabited
def api_Op.c (x : api_Op) : List _root_.Go.Value := [vI x.Kind, vS x.Key, vS x.Value, vW x.TTL, vW x.Version]
abbrev api_Op.v (x : api_Op) : _root_.Go.Value := .agg (api_Op.c x).toArray
structure api_Record where
  Seq : UInt64
  Now : UInt64
  Session : UInt64
  Num : UInt64
  Op : api_Op
  deriving DecidableEq, Inhabited
def api_Record.c (x : api_Record) : List _root_.Go.Value := [vW x.Seq, vW x.Now, vW x.Session, vW x.Num, vI x.Op.Kind, vS x.Op.Key, vS x.Op.Value, vW x.Op.TTL, vW x.Op.Version]
abbrev api_Record.v (x : api_Record) : _root_.Go.Value := .agg (api_Record.c x).toArray
structure api_Parts where
  Window : Int
  Protected : Int
  deriving DecidableEq, Inhabited
def api_Parts.c (x : api_Parts) : List _root_.Go.Value := [vI x.Window, vI x.Protected]
abbrev api_Parts.v (x : api_Parts) : _root_.Go.Value := .agg (api_Parts.c x).toArray
theorem api_Op.eqt31 (d : Nat) (a b : api_Op) : EqT Try.prog (d + 1) 31 (.agg (api_Op.c a).toArray) (.agg (api_Op.c b).toArray) (decide (a = b)) :=
  EqT.st Try.underlying31 Try.stoodInHeld31 (EqF.cons (a := vI a.Kind) (b := vI b.Kind) (fun _ => by kernel_rfl) (fun _ => by kernel_rfl) rfl (EqT.I _ Try.underlying3 _ _) <| EqF.cons (a := vS a.Key) (b := vS b.Key) (fun _ => by kernel_rfl) (fun _ => by kernel_rfl) rfl (EqT.S _ Try.underlying9 _ _) <| EqF.cons (a := vS a.Value) (b := vS b.Value) (fun _ => by kernel_rfl) (fun _ => by kernel_rfl) rfl (EqT.S _ Try.underlying9 _ _) <| EqF.cons (a := vW a.TTL) (b := vW b.TTL) (fun _ => by kernel_rfl) (fun _ => by kernel_rfl) rfl (EqT.W _ Try.underlying22 _ _) <| EqF.cons (a := vW a.Version) (b := vW b.Version) (fun _ => by kernel_rfl) (fun _ => by kernel_rfl) rfl (EqT.W _ Try.underlying22 _ _) <| EqF.nil) (by cases a; cases b; rw [Bool.eq_iff_iff]; simp)
theorem api_Op.beq_31 (a b : api_Op) : Bop Try.prog .eql 31 (.agg (api_Op.c a).toArray) (.agg (api_Op.c b).toArray) (vB (decide (a = b))) := EqT.bop Try.eqGuardType31 (api_Op.eqt31 9998 a b)
theorem api_Op.bne_31 (a b : api_Op) : Bop Try.prog .neq 31 (.agg (api_Op.c a).toArray) (.agg (api_Op.c b).toArray) (vB (!decide (a = b))) := EqT.bon Try.eqGuardType31 (api_Op.eqt31 9998 a b)

def store_Check (a0 : api_Config) : Bool :=
  ((((((a0.Policy == 1) || (a0.Policy == 2)) && decide (1 ≤ a0.Entries)) && decide (a0.Entries ≤ 1000)) && decide (1 ≤ a0.Bytes)) && decide (a0.Bytes ≤ 1048576))
theorem store_Check.ok {G R F} (a0 : api_Config) (r : Bool) (hm : store_Check a0 = r) : CO Try.prog 12 [.agg (api_Config.c a0).toArray] G R (F)
    (Ret fun u R' L' => u = vB r ∧ R' = R ∧ L' = F) := by
  unfold store_Check at hm
  refine co_ofN (N := 33) Try.func12 rfl rfl ?_
  refine c_seq ?_
  refine c_reg ?_
  refine r_new (o_bx (api_Config.c a0) rfl rfl) fun b0 => ?_
  refine r_u (o_as rfl) ?_
  refine r_nil ?_
  refine x_seq ?_
  refine c_seq ?_
  refine c_reg ?_
  refine r_u (o_fa fa29_0 rfl) ?_
  refine r_u (o_ld 0 sc3 rfl rfl rfl) ?_
  refine r_u (o_bin rfl rfl (bI_eq a0.Policy 1)) ?_
  refine r_u (o_mv rfl) ?_
  refine r_s (s_gf rfl rfl fun g => o_fa fa29_0 rfl) ?_
  refine r_s (s_gf rfl rfl fun g => o_ld 0 sc3 (evg rfl g) rfl rfl) ?_
  refine r_s (s_gf rfl rfl fun g => o_bin (evg rfl g) rfl (bI_eq a0.Policy 2)) ?_
  refine r_u (o_or rfl rfl) ?_
  refine r_u (o_as rfl) ?_
  refine r_nil ?_
  refine x_seq ?_
  refine c_seq ?_
  refine c_reg ?_
  refine r_u (o_mv rfl) ?_
  refine r_u (o_mv rfl) ?_
  refine r_s (s_gt rfl rfl fun g => o_fa fa29_1 rfl) ?_
  refine r_s (s_gt rfl rfl fun g => o_ld 0 sc3 (evg rfl g) rfl rfl) ?_
  refine r_s (s_gt rfl rfl fun g => o_bin (evg rfl g) rfl (bI_ge a0.Entries 1)) ?_
  refine r_u (o_and rfl rfl) ?_
  refine r_u (o_mv rfl) ?_
  refine r_s (s_gt rfl rfl fun g => o_fa fa29_1 rfl) ?_
  refine r_s (s_gt rfl rfl fun g => o_ld 0 sc3 (evg rfl g) rfl rfl) ?_
  refine r_s (s_gt rfl rfl fun g => o_bin (evg rfl g) rfl (bI_le a0.Entries 1000)) ?_
  refine r_u (o_and rfl rfl) ?_
  refine r_u (o_mv rfl) ?_
  refine r_s (s_gt rfl rfl fun g => o_fa fa29_2 rfl) ?_
  refine r_s (s_gt rfl rfl fun g => o_ld 0 sc3 (evg rfl g) rfl rfl) ?_
  refine r_s (s_gt rfl rfl fun g => o_bin (evg rfl g) rfl (bI_ge a0.Bytes 1)) ?_
  refine r_u (o_and rfl rfl) ?_
  refine r_u (o_mv rfl) ?_
  refine r_s (s_gt rfl rfl fun g => o_fa fa29_2 rfl) ?_
  refine r_s (s_gt rfl rfl fun g => o_ld 0 sc3 (evg rfl g) rfl rfl) ?_
  refine r_s (s_gt rfl rfl fun g => o_bin (evg rfl g) rfl (bI_le a0.Bytes 1048576)) ?_
  refine r_u (o_and rfl rfl) ?_
  refine r_u (o_as rfl) ?_
  refine r_nil ?_
  refine x_seq ?_
  refine c_ret ?_
  subst hm
  refine ex_st (fun _ h => st_pk 1 [] (by decide) h) ?_
  exact x_r1 rfl (rv_t rfl) (Le.refl _) ⟨_, rfl, rfl, rfl, rfl⟩

def ring_New_l0 (a0 : Int) : Nat → Int → (List Int) → Option (List Int)
  | 0, _, _ => none
  | k28 + 1, i_25, c_26 => if decide (0 ≤ i_25) then (apd 8 c_26 [i64 (a0 + i_25)]).bind fun l35 => ring_New_l0 a0 k28 (i64 (i_25 - 1)) l35 else some c_26
def ring_New_l1 (a0 : Int) : Nat → Int → (List ring_slot) → Option (List ring_slot)
  | 0, _, _ => none
  | k39 + 1, s_37, c_38 => if decide (s_37 < a0) then (gi c_38 s_37).bind fun x44 => ring_New_l1 a0 k39 (i64 (s_37 + 1)) (ls c_38 s_37 (⟨[], s_37, s_37, s_37⟩ : ring_slot)) else some c_38
def ring_New (a0 : Int) (a1 : Int) : Option (Option ring_Rings × Int) :=
  if (((decide (a0 < 1) || decide (8 < a0)) || decide (a1 < 0)) || decide (4096 < a1)) then some (none, 1) else (mks 8 a0 (0 : Int)).bind fun l11 => (mks 40 (i64 (a0 + a1)) ((⟨[], 0, 0, 0⟩ : ring_slot) : ring_slot)).bind fun l13 => Option.bind (ring_New_l1 a0 ((a0 - 0).toNat + 1) 0 l13) fun p16 => Option.bind (ring_New_l0 a0 (((i64 (a1 - 1)) + 1).toNat + 1) (i64 (a1 - 1)) []) fun p20 => some ((some (⟨a0, p16, p20, [], l11⟩ : ring_Rings)), 0)
theorem ring_New.ok {G R F} (a0 : Int) (a1 : Int) (r : Option ring_Rings × Int) (hm : ring_New a0 a1 = some r) : CO Try.prog 35 [vI a0, vI a1] G R (F)
    (Ret fun u R' L' => ∃ (p0 : Value × ring_Rings.G), u = .tuple #[p0.1, vI r.2] ∧ R' = R ∧ L' = rO (ring_Rings.op p0.2) p0.1 r.1 :: F) := by
  unfold ring_New at hm
  refine co_ofN (N := 67) Try.func35 rfl rfl ?_
  refine c_seq ?_
  refine c_reg ?_
  refine r_u (o_as rfl) ?_
  refine r_u (o_as rfl) ?_
  refine r_nil ?_
  refine x_seq ?_
  refine c_seq ?_
  refine c_seq ?_
  refine c_reg ?_
  refine r_u (o_mv rfl) ?_
  refine r_u (o_bin rfl rfl (bI_lt a0 1)) ?_
  refine r_u (o_mv rfl) ?_
  refine r_s (s_gf rfl rfl fun g => o_mv rfl) ?_
  refine r_s (s_gf rfl rfl fun g => o_bin (evg rfl g) rfl (bI_gt a0 8)) ?_
  refine r_u (o_or rfl rfl) ?_
  refine r_u (o_mv rfl) ?_
  refine r_s (s_gf rfl rfl fun g => o_mv rfl) ?_
  refine r_s (s_gf rfl rfl fun g => o_bin (evg rfl g) rfl (bI_lt a1 0)) ?_
  refine r_u (o_or rfl rfl) ?_
  refine r_u (o_mv rfl) ?_
  refine r_s (s_gf rfl rfl fun g => o_mv rfl) ?_
  refine r_s (s_gf rfl rfl fun g => o_bin (evg rfl g) rfl (bI_gt a1 4096)) ?_
  refine r_u (o_or rfl rfl) ?_
  refine r_nil ?_
  refine x_seq ?_
  refine c_if (b := (((decide (a0 < 1) || decide (8 < a0)) || decide (a1 < 0)) || decide (4096 < a1))) rfl (fun h0 => ?_) fun h0 => ?_
  · have hm1 := ift hm h0
    clear hm
    refine c_seq ?_
    refine c_reg ?_
    refine r_u (o_as rfl) ?_
    refine r_u (o_as rfl) ?_
    refine r_nil ?_
    refine x_seq ?_
    refine c_ret ?_
    refine ex_st (fun _ h => st_none (f := ring_Rings.op default) h) ?_
    obtain rfl := Option.some.inj hm1
    exact x_r2 rfl (rv_t rfl) (rv_t rfl) (Le.refl _) ⟨_, rfl, (nl, default), rfl, rfl, rfl⟩
  · have hm1 := iff_ hm h0
    clear hm
    refine c_skip ?_
    refine x_seq ?_
    refine c_seq ?_
    obtain ⟨l11, hl11, hm12⟩ := bs hm1
    clear hm1
    obtain ⟨l13, hl13, hm14⟩ := bs hm12
    clear hm12
    refine c_anyF mixed (effs := [9]) (fr := [(1, fun u => OwM vS vI u []), (3, fun u => OwS true 3 1 eI u l11), (7, fun u => OwS true 111 4 ring_slot.c u l13)]) (V := []) rfl ?_
    refine stageF_ext [(0, vI a0), (2, vI a0), (4, vI a0), (5, vI a1), (6, vI (i64 (a0 + a1)))] rfl ?_
    refine stageG rfl rfl rfl rfl rfl rfl [0, 0, 0, 4, 0, 0, 48, 112, 255, 511, 1023] [0, 2, 4, 5, 6] [] (by kernel_rfl) (by kernel_rfl) (by kernel_rfl) (by kernel_rfl) (tc rfl rfl (fun A => s_u (o_mv rfl)) (tc rfl rfl (fun A => s_u (o_mv rfl)) (tc rfl rfl (fun A => s_u (o_mv rfl)) (tc rfl rfl (fun A => s_u (o_mv rfl)) (tc rfl rfl (fun A => s_u (o_bin rfl rfl (bI_add a0 a1))) tn))))) (fcons rfl (fun A => s_w (o_mm (kv := vS) (vv := vI))) (fcons rfl (fun A => s_w (o_mk (sz := 1) (bytes := 8) (e := 3) (en := eI) Try.underlying106 rfl rfl rfl rfl rfl rfl rfl rfl rfl hl11)) (fcons rfl (fun A => s_w (o_mk (sz := 4) (bytes := 40) (e := 111) (en := ring_slot.c) Try.underlying107 rfl rfl rfl rfl rfl rfl rfl rfl rfl hl13)) fnil))) etn fun bt10 => ?_
    refine stage_ext [(8, .agg [vI a0, (bt10 7), .slice none 0 0, (bt10 1), (bt10 3)].toArray)] rfl ?_
    refine stage rfl rfl rfl rfl [0, 0, 0, 4, 0, 0, 48, 112, 255, 511, 1023] [0, 8] [9] (by kernel_rfl) (by kernel_rfl) (by kernel_rfl) (qc rfl rfl (s_u (o_mv rfl)) (qc rfl rfl (s_u (ou_if (hd_m 0 rfl) fun hb0 => ou_if (hd_o 1 rfl) fun hb1 => ou_if (hd_o 2 rfl) fun hb2 => o_bld [vI a0, (bt10 7), .slice none 0 0, (bt10 1), (bt10 3)] rfl (fun _ => by obtain ⟨_, he0⟩ := hb0; rw [he0]; obtain ⟨_, _, he1⟩ := hb1; rw [he1]; obtain ⟨_, _, he2⟩ := hb2; rw [he2]; kernel_rfl))) qn)) ?_ (fun h => absurd (show false = true from h) (by decide))
    refine ec (eo_n rfl (s_w (o_bx [vI a0, (bt10 7), .slice none 0 0, (bt10 1), (bt10 3)] rfl rfl)) fun b15 => ?_) en
    refine stage_ext [(10, pt b15 0)] rfl ?_
    refine stage rfl rfl rfl rfl [0, 0, 0, 4, 0, 0, 48, 112, 255, 511, 1023] [10] [] (by kernel_rfl) (by kernel_rfl) (by kernel_rfl) (qc rfl rfl (s_u (o_as rfl)) qn) en ?_
    intro _
    refine ex_sub (E' := [(0, vI a0), (1, vI a1), (6, pt b15 0)]) ⟨rfl, rfl, rfl, trivial⟩ ?_
    refine x_seq ?_
    refine c_seq ?_
    refine c_seq ?_
    refine c_reg ?_
    refine r_u (o_mv rfl) ?_
    refine r_u (o_mv rfl) ?_
    refine r_nil ?_
    refine x_seq ?_
    obtain ⟨p16, hp17, hm18⟩ := bs hm14
    refine cd_join (E' := [(0, vI a0), (1, vI a1), (6, pt b15 0)]) (L' := Bk b15 109 [vI a0, (bt10 7), .slice none 0 0, (bt10 1), (bt10 3)] :: OwM vS vI (bt10 1) [] :: OwS true 3 1 eI (bt10 3) l11 :: OwS true 111 4 ring_slot.c (bt10 7) p16 :: F) ?_ fun K19 => ?_
    · refine x_seq ?_
      refine c_seq ?_
      refine c_seq ?_
      refine c_reg ?_
      refine r_u (o_mv rfl) ?_
      refine r_u (o_bin rfl rfl (bI_sub a1 1)) ?_
      refine r_u (o_as rfl) ?_
      refine r_nil ?_
      refine x_seq ?_
      obtain ⟨p20, hp22, hm23⟩ := bs hm18
      refine cd_cut (fun x ks => ∀ (g21 : Value), EX x .normal ks [(6, pt b15 0)] R (Bk b15 109 [vI a0, (bt10 7), g21, (bt10 1), (bt10 3)] :: OwM vS vI (bt10 1) [] :: OwS true 3 1 eI (bt10 3) l11 :: OwS true 111 4 ring_slot.c (bt10 7) p16 :: OwS true 3 1 eI g21 p20 :: F)) ?_ fun K24 => ?_
      · intro g21
        refine x_seq ?_
        refine c_seq ?_
        refine c_reg ?_
        refine r_u (o_mv rfl) ?_
        refine r_u (o_as rfl) ?_
        refine r_u (o_as rfl) ?_
        refine r_nil ?_
        refine x_seq ?_
        refine c_ret ?_
        refine ex_st (fun _ h => mv4 (mv4 (mv4 (mv2 (mv2 h))))) ?_
        refine ex_st (fun _ h => st_some (f := ring_Rings.op (⟨(bt10 7), g21, (bt10 1), (bt10 3)⟩ : ring_Rings.G)) (a := (⟨a0, p16, p20, [], l11⟩ : ring_Rings)) (st_star_f (A := ring_Rings.fl b15 (⟨a0, p16, p20, [], l11⟩ : ring_Rings) (⟨(bt10 7), g21, (bt10 1), (bt10 3)⟩ : ring_Rings.G)) h)) ?_
        obtain rfl := Option.some.inj hm23
        exact x_r2 rfl (rv_t rfl) (rv_t rfl) (Le.refl _) ⟨_, rfl, (pt b15 0, (⟨(bt10 7), g21, (bt10 1), (bt10 3)⟩ : ring_Rings.G)), rfl, rfl, rfl⟩
      · refine c_blk ?_
        refine cd_st (fun _ h => st_nil (ap := true) (T := 3) (sz := 1) (en := eI) h) ?_
        refine cd_loopG (M := fun k28 (s : Int × List Int × Value) => ring_New_l0 a0 k28 s.1 s.2.1 = some p20) (Ef := fun (s : Int × List Int × Value) => [(0, vI a0), (6, pt b15 0), (8, vI s.1)]) (Rf := fun (s : Int × List Int × Value) => R) (Lf := fun (s : Int × List Int × Value) => Bk b15 109 [vI a0, (bt10 7), s.2.2, (bt10 1), (bt10 3)] :: OwM vS vI (bt10 1) [] :: OwS true 3 1 eI (bt10 3) l11 :: OwS true 111 4 ring_slot.c (bt10 7) p16 :: OwS true 3 1 eI s.2.2 s.2.1 :: F) (((i64 (a1 - 1)) + 1).toNat + 1) (i64 (a1 - 1), [], .slice none 0 0) hp22 ⟨rfl, rfl, rfl, trivial⟩ (fun _ h => st_pk 5 [1, 2, 3, 4, 0] (by decide) h) (fun _ h => by cases h) fun k28 s hM30 => ?_
        obtain ⟨i_25, c_26, g27⟩ := s
        have hm29 : ring_New_l0 a0 (k28 + 1) i_25 c_26 = some p20 := hM30
        rw [ring_New_l0] at hm29
        refine c_seq ?_
        refine c_seq ?_
        refine c_reg ?_
        refine r_u (o_mv rfl) ?_
        refine r_u (o_bin rfl rfl (bI_ge i_25 0)) ?_
        refine r_nil ?_
        refine x_seq ?_
        refine c_if (b := decide (0 ≤ i_25)) rfl (fun h31 => ?_) fun h31 => ?_
        · have hm32 := ift hm29 h31
          clear hm29
          refine c_skip ?_
          refine x_seq ?_
          refine c_seq ?_
          refine c_blk ?_
          refine c_reg ?_
          refine r_u (o_mv rfl) ?_
          refine r_u (o_mv rfl) ?_
          refine r_u (o_nc rfl) ?_
          refine r_u (o_fa fa109_2 rfl) ?_
          refine r_u (o_ld 0 sc106 rfl rfl rfl) ?_
          refine r_u (o_mv rfl) ?_
          refine r_u (o_mv rfl) ?_
          refine r_u (o_bin rfl rfl (bI_add a0 i_25)) ?_
          refine r_sw (s_w (o_bsl (en := eI) (sz := 1) (e := 3) (cs := [vI (i64 (a0 + i_25))]) (r := [i64 (a0 + i_25)]) rfl (fun _ => by kernel_rfl) rfl (by decide) rfl (fun _ => rfl))) ?_
          rintro v33 R _ _ ⟨rfl, rfl⟩
          obtain ⟨l35, hl35, hm36⟩ := bs hm32
          clear hm32
          refine rl_st (fun _ h => mv5 h) ?_
          refine r_sw (s_w (o_ap (sz := 1) (bytes := 8) 0 Try.underlying106 rfl rfl rfl rfl rfl (by decide) (by decide) (fun _ _ _ h => by simp at h; subst h; rfl) (fun _ => rfl) rfl rfl rfl rfl (Nat.succ_pos _) hl35)) ?_
          rintro v34 R _ _ ⟨rfl, rfl⟩
          refine r_u (o_nc rfl) ?_
          refine r_u (o_fa fa109_2 rfl) ?_
          refine rl_st (fun _ h => mv2 h) ?_
          refine r_u0 (ou_if (one_o 1 rfl) fun ho0 => o_st sc106 rfl rfl rfl ho0 rfl rfl) ?_
          refine r_nil ?_
          refine x_blk ?_
          refine x_seq ?_
          refine c_reg ?_
          refine r_u (o_mv rfl) ?_
          refine r_u (o_bin rfl rfl (bI_sub i_25 1)) ?_
          refine r_u (o_as rfl) ?_
          refine r_nil ?_
          exact x_lp (i64 (i_25 - 1), l35, v34) hm36 ⟨rfl, rfl, rfl, trivial⟩ (fun _ h => st_pk 6 [0, 3, 4, 5, 1] (by decide) h)
        · have hm32 := iff_ hm29 h31
          clear hm29
          refine c_exit (x_exit (ks' := _) rfl ?_)
          obtain rfl := Option.some.inj hm32
          exact x_sub (K24 g27) ⟨rfl, trivial⟩ (fun _ h => st_pk 5 [0, 1, 2, 3, 4] (by decide) h)
    · refine c_blk ?_
      refine cd_loop (M := fun k39 (s : Int × List ring_slot) => ring_New_l1 a0 k39 s.1 s.2 = some p16) (Ef := fun (s : Int × List ring_slot) => [(0, vI a0), (1, vI a1), (6, pt b15 0), (33, vI a0), (34, vI s.1)]) (Lf := fun (s : Int × List ring_slot) => Bk b15 109 [vI a0, (bt10 7), .slice none 0 0, (bt10 1), (bt10 3)] :: OwM vS vI (bt10 1) [] :: OwS true 3 1 eI (bt10 3) l11 :: OwS true 111 4 ring_slot.c (bt10 7) s.2 :: F) ((a0 - 0).toNat + 1) (0, l13) hp17 ⟨rfl, rfl, rfl, rfl, rfl, trivial⟩ (fun _ h => h) (fun _ h => by cases h) fun k39 s hM41 => ?_
      obtain ⟨s_37, c_38⟩ := s
      have hm40 : ring_New_l1 a0 (k39 + 1) s_37 c_38 = some p16 := hM41
      rw [ring_New_l1] at hm40
      refine c_seq ?_
      refine c_reg ?_
      refine r_u (o_bin rfl rfl (bI_lt s_37 a0)) ?_
      refine r_nil ?_
      refine x_seq ?_
      refine c_seq ?_
      refine c_if (b := decide (s_37 < a0)) rfl (fun h42 => ?_) fun h42 => ?_
      · have hm43 := ift hm40 h42
        clear hm40
        refine c_skip ?_
        refine x_seq ?_
        refine c_seq ?_
        refine c_blk ?_
        refine c_seq ?_
        refine c_reg ?_
        refine r_u (o_mv rfl) ?_
        refine r_u (o_as rfl) ?_
        refine r_nil ?_
        refine x_seq ?_
        refine c_reg ?_
        refine r_u (o_mv rfl) ?_
        refine r_u (o_nc rfl) ?_
        refine r_u (o_fa fa109_1 rfl) ?_
        refine r_u (o_ld 0 sc107 rfl rfl rfl) ?_
        refine r_u (o_mv rfl) ?_
        refine r_u (o_mv rfl) ?_
        refine r_u (o_mv rfl) ?_
        refine r_u (o_mv rfl) ?_
        refine r_u (o_bld [vS [], vI s_37, vI s_37, vI s_37] rfl (fun _ => by kernel_rfl)) ?_
        obtain ⟨x44, hx44, hm45⟩ := bs hm43
        clear hm43
        refine r_u (o_ixO 3 Try.underlying107 (fun _ => by kernel_rfl) rfl rfl rfl hx44) ?_
        refine rl_st (fun _ h => mv3 h) ?_
        refine r_u0 (o_stnO (c' := (⟨[], s_37, s_37, s_37⟩ : ring_slot)) ag111 rfl rfl rfl hx44 rfl rfl rfl) ?_
        refine r_nil ?_
        refine x_blk ?_
        refine x_seq ?_
        refine c_reg ?_
        refine r_u (o_bin rfl rfl (bI_add s_37 1)) ?_
        refine r_u (o_mv rfl) ?_
        refine r_nil ?_
        exact x_lp (i64 (s_37 + 1), ls c_38 s_37 (⟨[], s_37, s_37, s_37⟩ : ring_slot)) hm45 ⟨rfl, rfl, rfl, rfl, rfl, trivial⟩ (fun _ h => st_pk 4 [1, 2, 3, 0] (by decide) h)
      · have hm43 := iff_ hm40 h42
        clear hm40
        refine c_exit (x_exit (ks' := _) rfl ?_)
        obtain rfl := Option.some.inj hm43
        exact x_sub K19 ⟨rfl, rfl, rfl, trivial⟩ (fun _ h => st_pk 4 [0, 1, 2, 3] (by decide) h)

def arc_New (a0 : Int) : Option (Option arc_Arc × Int) :=
  if (decide (a0 < 1) || decide (1000 < a0)) then some (none, 1) else (ring_New 4 (i64 ((i64 (2 * a0)) + 1))).bind fun r2 => some ((some (⟨a0, 0, r2.1⟩ : arc_Arc)), r2.2)
theorem arc_New.ok {G R F} (a0 : Int) (r : Option arc_Arc × Int) (hm : arc_New a0 = some r) : CO Try.prog 22 [vI a0] G R (F)
    (Ret fun u R' L' => ∃ (p0 : Value × arc_Arc.G), u = .tuple #[p0.1, vI r.2] ∧ R' = R ∧ L' = rO (arc_Arc.op p0.2) p0.1 r.1 :: F) := by
  unfold arc_New at hm
  refine co_ofN (N := 24) Try.func22 rfl rfl ?_
  refine c_seq ?_
  refine c_reg ?_
  refine r_u (o_as rfl) ?_
  refine r_u (o_as rfl) ?_
  refine r_nil ?_
  refine x_seq ?_
  refine c_seq ?_
  refine c_seq ?_
  refine c_reg ?_
  refine r_u (o_mv rfl) ?_
  refine r_u (o_bin rfl rfl (bI_lt a0 1)) ?_
  refine r_u (o_mv rfl) ?_
  refine r_s (s_gf rfl rfl fun g => o_mv rfl) ?_
  refine r_s (s_gf rfl rfl fun g => o_bin (evg rfl g) rfl (bI_gt a0 1000)) ?_
  refine r_u (o_or rfl rfl) ?_
  refine r_nil ?_
  refine x_seq ?_
  refine c_if (b := (decide (a0 < 1) || decide (1000 < a0))) rfl (fun h0 => ?_) fun h0 => ?_
  · have hm1 := ift hm h0
    clear hm
    refine c_seq ?_
    refine c_reg ?_
    refine r_u (o_as rfl) ?_
    refine r_u (o_as rfl) ?_
    refine r_nil ?_
    refine x_seq ?_
    refine c_ret ?_
    refine ex_st (fun _ h => st_none (f := arc_Arc.op default) h) ?_
    obtain rfl := Option.some.inj hm1
    exact x_r2 rfl (rv_t rfl) (rv_t rfl) (Le.refl _) ⟨_, rfl, (nl, default), rfl, rfl, rfl⟩
  · have hm1 := iff_ hm h0
    clear hm
    refine c_skip ?_
    refine x_seq ?_
    refine c_seq ?_
    refine c_reg ?_
    refine r_u (o_mv rfl) ?_
    refine r_u (o_bin rfl rfl (bI_mul 2 a0)) ?_
    refine r_u (o_bin rfl rfl (bI_add (i64 (2 * a0)) 1)) ?_
    obtain ⟨r2, hr2, hm6⟩ := bs hm1
    clear hm1
    refine r_sw (s_w (o_call ca35 rfl (ring_New.ok 4 (i64 ((i64 (2 * a0)) + 1)) r2 hr2))) ?_
    rintro _ R _ _ ⟨⟨pv4, g5⟩, rfl, rfl, rfl⟩
    refine r_u (o_mv rfl) ?_
    refine r_u (o_ext rfl rfl) ?_
    refine r_u (o_ext rfl rfl) ?_
    refine r_u (o_as rfl) ?_
    refine r_u (o_as rfl) ?_
    refine r_nil ?_
    refine x_seq ?_
    refine c_seq ?_
    refine c_reg ?_
    refine r_u (o_mv rfl) ?_
    refine r_u (o_mv rfl) ?_
    refine r_u (ou_if (hd_p 0 rfl) fun hb0 => o_bld [vI a0, vI 0, pv4] rfl (fun _ => by obtain ⟨_, rfl⟩ := hb0; kernel_rfl)) ?_
    refine r_new (o_bx [vI a0, vI 0, pv4] rfl rfl) fun b7 => ?_
    refine r_u (o_mv rfl) ?_
    refine r_u (o_as rfl) ?_
    refine r_u (o_as rfl) ?_
    refine r_nil ?_
    refine x_seq ?_
    refine c_ret ?_
    refine ex_st (fun _ h => st_some (f := arc_Arc.op (⟨(pv4, g5)⟩ : arc_Arc.G)) (a := (⟨a0, 0, r2.1⟩ : arc_Arc)) (st_star_f (A := arc_Arc.fl b7 (⟨a0, 0, r2.1⟩ : arc_Arc) (⟨(pv4, g5)⟩ : arc_Arc.G)) h)) ?_
    obtain rfl := Option.some.inj hm6
    exact x_r2 rfl (rv_t rfl) (rv_t rfl) (Le.refl _) ⟨_, rfl, (pt b7 0, (⟨(pv4, g5)⟩ : arc_Arc.G)), rfl, rfl, rfl⟩

def tiny_wide (a0 : Int) : Int :=
  (if 4096 < (i64 (8 * a0)) then 4096 else i64 (8 * a0))
theorem tiny_wide.ok {G R F} (a0 : Int) (r : Int) (hm : tiny_wide a0 = r) : CO Try.prog 37 [vI a0] G R (F)
    (Ret fun u R' L' => u = vI r ∧ R' = R ∧ L' = F) := by
  unfold tiny_wide at hm
  refine co_ofN (N := 6) Try.func37 rfl rfl ?_
  refine c_seq ?_
  refine c_reg ?_
  refine r_u (o_as rfl) ?_
  refine r_nil ?_
  refine x_seq ?_
  refine c_seq ?_
  refine c_reg ?_
  refine r_u (o_mv rfl) ?_
  refine r_u (o_bin rfl rfl (bI_mul 8 a0)) ?_
  refine r_u (o_minI rfl rfl) ?_
  refine r_u (o_as rfl) ?_
  refine r_nil ?_
  refine x_seq ?_
  refine c_ret ?_
  subst hm
  exact x_r1 rfl (rv_t rfl) (Le.refl _) ⟨_, rfl, rfl, rfl, rfl⟩

def sketch_New_l0 (a0 : Int) : Nat → Int → (List (List UInt8)) → Option (List (List UInt8))
  | 0, _, _ => none
  | k14 + 1, s_11, c_12 => if decide (s_11 < 4) then (mks 1 a0 (0 : UInt8)).bind fun l20 => (gi c_12 s_11).bind fun y22 => sketch_New_l0 a0 k14 (i64 (s_11 + 1)) (ls c_12 s_11 l20) else some c_12
def sketch_New (a0 : Int) (a1 : UInt64) : Option (Option sketch_Sketch × Int) :=
  if (decide (a0 < 1) || decide (4096 < a0)) then some (none, 1) else (mks 1 a0 (false : Bool)).bind fun l3 => Option.bind (sketch_New_l0 a0 5 0 [[], [], [], []]) fun p6 => some ((some (⟨a0, a1, p6, l3, 0⟩ : sketch_Sketch)), 0)
theorem sketch_New.ok {G R F} (a0 : Int) (a1 : UInt64) (r : Option sketch_Sketch × Int) (hm : sketch_New a0 a1 = some r) : CO Try.prog 36 [vI a0, vW a1] G R (F)
    (Ret fun u R' L' => ∃ (p0 : Value × sketch_Sketch.G), u = .tuple #[p0.1, vI r.2] ∧ R' = R ∧ L' = rO (sketch_Sketch.op p0.2) p0.1 r.1 :: F) := by
  unfold sketch_New at hm
  refine co_ofN (N := 32) Try.func36 rfl rfl ?_
  refine c_seq ?_
  refine c_reg ?_
  refine r_u (o_as rfl) ?_
  refine r_u (o_as rfl) ?_
  refine r_nil ?_
  refine x_seq ?_
  refine c_seq ?_
  refine c_seq ?_
  refine c_reg ?_
  refine r_u (o_mv rfl) ?_
  refine r_u (o_bin rfl rfl (bI_lt a0 1)) ?_
  refine r_u (o_mv rfl) ?_
  refine r_s (s_gf rfl rfl fun g => o_mv rfl) ?_
  refine r_s (s_gf rfl rfl fun g => o_bin (evg rfl g) rfl (bI_gt a0 4096)) ?_
  refine r_u (o_or rfl rfl) ?_
  refine r_nil ?_
  refine x_seq ?_
  refine c_if (b := (decide (a0 < 1) || decide (4096 < a0))) rfl (fun h0 => ?_) fun h0 => ?_
  · have hm1 := ift hm h0
    clear hm
    refine c_seq ?_
    refine c_reg ?_
    refine r_u (o_as rfl) ?_
    refine r_u (o_as rfl) ?_
    refine r_nil ?_
    refine x_seq ?_
    refine c_ret ?_
    refine ex_st (fun _ h => st_none (f := sketch_Sketch.op default) h) ?_
    obtain rfl := Option.some.inj hm1
    exact x_r2 rfl (rv_t rfl) (rv_t rfl) (Le.refl _) ⟨_, rfl, (nl, default), rfl, rfl, rfl⟩
  · have hm1 := iff_ hm h0
    clear hm
    refine c_skip ?_
    refine x_seq ?_
    refine c_seq ?_
    refine c_reg ?_
    refine r_u (o_mv rfl) ?_
    refine r_u (o_mv rfl) ?_
    refine r_u (o_mv rfl) ?_
    obtain ⟨l3, hl3, hm4⟩ := bs hm1
    clear hm1
    refine r_sw (s_w (o_mk (sz := 1) (bytes := 1) (e := 4) (en := eB) Try.underlying112 rfl rfl rfl rfl rfl rfl rfl rfl rfl hl3)) ?_
    rintro v2 R _ _ ⟨rfl, rfl⟩
    refine r_u (ou_if (hd_o 0 rfl) fun hb0 => o_bld [vI a0, vW a1, .slice none 0 0, .slice none 0 0, .slice none 0 0, .slice none 0 0, v2, vI 0] rfl (fun _ => by obtain ⟨_, _, rfl⟩ := hb0; kernel_rfl)) ?_
    refine r_new (o_bx [vI a0, vW a1, .slice none 0 0, .slice none 0 0, .slice none 0 0, .slice none 0 0, v2, vI 0] rfl rfl) fun b5 => ?_
    refine r_u (o_as rfl) ?_
    refine r_nil ?_
    refine x_seq ?_
    refine c_seq ?_
    refine c_seq ?_
    refine c_reg ?_
    refine r_u (o_mv rfl) ?_
    refine r_nil ?_
    refine x_seq ?_
    obtain ⟨p6, hp8, hm9⟩ := bs hm4
    refine cd_cut (fun x ks => ∀ (g7 : Value × Value × Value × Value), EX x .normal ks [(6, pt b5 0)] R (Bk b5 116 [vI a0, vW a1, g7.1, g7.2.1, g7.2.2.1, g7.2.2.2, v2, vI 0] :: OwS true 4 1 eB v2 l3 :: OwL (OwS false 5 1 eY) [g7.1, g7.2.1, g7.2.2.1, g7.2.2.2] p6 :: F)) ?_ fun K10 => ?_
    · intro g7
      refine x_seq ?_
      refine c_seq ?_
      refine c_reg ?_
      refine r_u (o_mv rfl) ?_
      refine r_u (o_as rfl) ?_
      refine r_u (o_as rfl) ?_
      refine r_nil ?_
      refine x_seq ?_
      refine c_ret ?_
      refine ex_st (fun _ h => mv2 (mv2 (mv1 h))) ?_
      refine ex_st (fun _ h => st_some (f := sketch_Sketch.op (⟨g7, v2⟩ : sketch_Sketch.G)) (a := (⟨a0, a1, p6, l3, 0⟩ : sketch_Sketch)) (st_star_f (A := sketch_Sketch.fl b5 (⟨a0, a1, p6, l3, 0⟩ : sketch_Sketch) (⟨g7, v2⟩ : sketch_Sketch.G)) h)) ?_
      obtain rfl := Option.some.inj hm9
      exact x_r2 rfl (rv_t rfl) (rv_t rfl) (Le.refl _) ⟨_, rfl, (pt b5 0, (⟨g7, v2⟩ : sketch_Sketch.G)), rfl, rfl, rfl⟩
    · refine c_blk ?_
      refine cd_st (fun _ h => st_lnil4 (own := OwS false 5 1 eY) (fun _ => OwS.nil) h) ?_
      refine cd_loopG (M := fun k14 (s : Int × List (List UInt8) × (Value × Value × Value × Value)) => sketch_New_l0 a0 k14 s.1 s.2.1 = some p6) (Ef := fun (s : Int × List (List UInt8) × (Value × Value × Value × Value)) => [(0, vI a0), (6, pt b5 0), (20, vI s.1)]) (Rf := fun (s : Int × List (List UInt8) × (Value × Value × Value × Value)) => R) (Lf := fun (s : Int × List (List UInt8) × (Value × Value × Value × Value)) => Bk b5 116 [vI a0, vW a1, s.2.2.1, s.2.2.2.1, s.2.2.2.2.1, s.2.2.2.2.2, v2, vI 0] :: OwS true 4 1 eB v2 l3 :: OwL (OwS false 5 1 eY) [s.2.2.1, s.2.2.2.1, s.2.2.2.2.1, s.2.2.2.2.2] s.2.1 :: F) 5 (0, [[], [], [], []], (.slice none 0 0, .slice none 0 0, .slice none 0 0, .slice none 0 0)) hp8 ⟨rfl, rfl, rfl, trivial⟩ (fun _ h => st_pk 3 [1, 2, 0] (by decide) h) (fun _ h => by cases h) fun k14 s hM16 => ?_
      obtain ⟨s_11, c_12, g13⟩ := s
      have hm15 : sketch_New_l0 a0 (k14 + 1) s_11 c_12 = some p6 := hM16
      rw [sketch_New_l0] at hm15
      refine c_seq ?_
      refine c_reg ?_
      refine r_u (o_bin rfl rfl (bI_lt s_11 4)) ?_
      refine r_nil ?_
      refine x_seq ?_
      refine c_seq ?_
      refine c_if (b := decide (s_11 < 4)) rfl (fun h17 => ?_) fun h17 => ?_
      · have hm18 := ift hm15 h17
        clear hm15
        refine c_skip ?_
        refine x_seq ?_
        refine c_seq ?_
        refine c_blk ?_
        refine c_seq ?_
        refine c_reg ?_
        refine r_u (o_mv rfl) ?_
        refine r_u (o_as rfl) ?_
        refine r_nil ?_
        refine x_seq ?_
        obtain ⟨l20, hl20, hm21⟩ := bs hm18
        clear hm18
        obtain ⟨y22, hy22, hm24⟩ := bs hm21
        clear hm21
        refine cd_ex (fun w h => st_peek 2 hy22 rfl w h) fun u23 hu23 => ?_
        refine c_any mixed (effs := [3, 7]) (V := []) ?_
        refine stage_ext [(0, pt b5 0), (1, vI s_11), (2, vI a0), (4, pt b5 0), (5, pt b5 2)] rfl ?_
        refine stage rfl rfl rfl rfl [0, 0, 0, 4, 1, 17, 63, 127] [0, 1, 2, 4, 5] [3] rfl rfl rfl (qc rfl rfl (s_u (o_mv rfl)) (qc rfl rfl (s_u (o_mv rfl)) (qc rfl rfl (s_u (o_mv rfl)) (qc rfl rfl (s_u (o_nc rfl)) (qc rfl rfl (s_u (o_fa fa116_2 rfl)) qn))))) ?_ (fun h => absurd h (by decide))
        refine ec (eo_w rfl (s_w (o_mk (sz := 1) (bytes := 1) (e := 5) (en := eY) Try.underlying113 rfl rfl rfl rfl rfl rfl rfl rfl rfl hl20)) ?_) en
        rintro v19 R _ _ ⟨rfl, rfl⟩
        refine stage_st (fun _ h => st_weak h) ?_
        refine stage_st (fun _ h => mv2 (mv3 h)) ?_
        refine stage_ext [(6, pt b5 (2 + s_11.toNat * 1))] rfl ?_
        refine stage rfl rfl rfl rfl [0, 0, 0, 4, 1, 17, 63, 127] [0, 1, 4, 5, 6] [7] rfl rfl rfl (qc rfl rfl (s_u (o_mv rfl)) (qc rfl rfl (s_u (o_mv rfl)) (qc rfl rfl (s_u (o_nc rfl)) (qc rfl rfl (s_u (o_fa fa116_2 rfl)) (qc rfl rfl (s_u (o_ixA (sz := 1) Try.underlying114 (fun _ => by kernel_rfl) rfl rfl (gi_some hu23).1)) qn))))) ?_ (fun h => absurd h (by decide))
        refine ec (eo_w rfl (s_w (ow_if (one_o 2 rfl) fun ho => o_stA4 (A := [vI a0, vW a1]) (B := [v2, vI 0]) hy22 hu23 sc113 rfl rfl rfl ho)) ?_) en
        rintro _ R _ _ ⟨p25, p26, p27, p28, rfl, rfl, rfl⟩
        refine stage rfl rfl rfl rfl [0, 0, 0, 4, 1, 17, 63, 127] [] [] rfl rfl rfl qn en ?_
        intro _
        refine ex_sub (E' := [(0, vI a0), (6, pt b5 0), (20, vI s_11)]) ⟨rfl, rfl, rfl, trivial⟩ ?_
        refine x_blk ?_
        refine x_seq ?_
        refine c_reg ?_
        refine r_u (o_bin rfl rfl (bI_add s_11 1)) ?_
        refine r_u (o_mv rfl) ?_
        refine r_nil ?_
        exact x_lp (i64 (s_11 + 1), ls c_12 s_11 l20, (p25, p26, p27, p28)) hm24 ⟨rfl, rfl, rfl, trivial⟩ (fun _ h => st_pk 3 [0, 2, 1] (by decide) h)
      · have hm18 := iff_ hm15 h17
        clear hm15
        refine c_exit (x_exit (ks' := _) rfl ?_)
        obtain rfl := Option.some.inj hm18
        exact x_sub (K10 g13) ⟨rfl, trivial⟩ (fun _ h => st_pk 3 [0, 1, 2] (by decide) h)

def tiny_New (a0 : Int) (a1 : UInt64) : Option (Option tiny_Tiny × Int) :=
  if (decide (a0 < 1) || decide (1000 < a0)) then some (none, 1) else (sketch_New (tiny_wide a0) a1).bind fun r2 => (ring_New 3 (i64 (a0 + 1))).bind fun r7 => some ((some (⟨a0, r2.1, r7.1⟩ : tiny_Tiny)), r7.2)
theorem tiny_New.ok {G R F} (a0 : Int) (a1 : UInt64) (r : Option tiny_Tiny × Int) (hm : tiny_New a0 a1 = some r) : CO Try.prog 23 [vI a0, vW a1] G R (F)
    (Ret fun u R' L' => ∃ (p0 : Value × tiny_Tiny.G), u = .tuple #[p0.1, vI r.2] ∧ R' = R ∧ L' = rO (tiny_Tiny.op p0.2) p0.1 r.1 :: F) := by
  unfold tiny_New at hm
  refine co_ofN (N := 35) Try.func23 rfl rfl ?_
  refine c_seq ?_
  refine c_reg ?_
  refine r_u (o_as rfl) ?_
  refine r_u (o_as rfl) ?_
  refine r_nil ?_
  refine x_seq ?_
  refine c_seq ?_
  refine c_seq ?_
  refine c_reg ?_
  refine r_u (o_mv rfl) ?_
  refine r_u (o_bin rfl rfl (bI_lt a0 1)) ?_
  refine r_u (o_mv rfl) ?_
  refine r_s (s_gf rfl rfl fun g => o_mv rfl) ?_
  refine r_s (s_gf rfl rfl fun g => o_bin (evg rfl g) rfl (bI_gt a0 1000)) ?_
  refine r_u (o_or rfl rfl) ?_
  refine r_nil ?_
  refine x_seq ?_
  refine c_if (b := (decide (a0 < 1) || decide (1000 < a0))) rfl (fun h0 => ?_) fun h0 => ?_
  · have hm1 := ift hm h0
    clear hm
    refine c_seq ?_
    refine c_reg ?_
    refine r_u (o_as rfl) ?_
    refine r_u (o_as rfl) ?_
    refine r_nil ?_
    refine x_seq ?_
    refine c_ret ?_
    refine ex_st (fun _ h => st_none (f := tiny_Tiny.op default) h) ?_
    obtain rfl := Option.some.inj hm1
    exact x_r2 rfl (rv_t rfl) (rv_t rfl) (Le.refl _) ⟨_, rfl, (nl, default), rfl, rfl, rfl⟩
  · have hm1 := iff_ hm h0
    clear hm
    refine c_skip ?_
    refine x_seq ?_
    refine c_seq ?_
    refine c_reg ?_
    refine r_u (o_mv rfl) ?_
    refine r_u (o_callq ca37 rfl (tiny_wide.ok a0 _ rfl)) ?_
    refine r_u (o_mv rfl) ?_
    obtain ⟨r2, hr2, hm6⟩ := bs hm1
    clear hm1
    refine r_sw (s_w (o_call ca36 rfl (sketch_New.ok (tiny_wide a0) a1 r2 hr2))) ?_
    rintro _ R _ _ ⟨⟨pv4, g5⟩, rfl, rfl, rfl⟩
    refine r_u (o_mv rfl) ?_
    refine r_u (o_ext rfl rfl) ?_
    refine r_u (o_ext rfl rfl) ?_
    refine r_u (o_as rfl) ?_
    refine r_u (o_as rfl) ?_
    refine r_nil ?_
    refine x_seq ?_
    refine c_seq ?_
    refine c_reg ?_
    refine r_u (o_mv rfl) ?_
    refine r_u (o_bin rfl rfl (bI_add a0 1)) ?_
    obtain ⟨r7, hr7, hm11⟩ := bs hm6
    clear hm6
    refine r_sw (s_w (o_call ca35 rfl (ring_New.ok 3 (i64 (a0 + 1)) r7 hr7))) ?_
    rintro _ R _ _ ⟨⟨pv9, g10⟩, rfl, rfl, rfl⟩
    refine r_u (o_mv rfl) ?_
    refine r_u (o_ext rfl rfl) ?_
    refine r_u (o_ext rfl rfl) ?_
    refine r_u (o_as rfl) ?_
    refine r_u (o_as rfl) ?_
    refine r_nil ?_
    refine x_seq ?_
    refine c_seq ?_
    refine c_reg ?_
    refine r_u (o_mv rfl) ?_
    refine r_u (o_mv rfl) ?_
    refine r_u (o_mv rfl) ?_
    refine r_u (ou_if (hd_p 1 rfl) fun hb0 => ou_if (hd_p 0 rfl) fun hb1 => o_bld [vI a0, pv4, pv9] rfl (fun _ => by obtain ⟨_, rfl⟩ := hb0; obtain ⟨_, rfl⟩ := hb1; kernel_rfl)) ?_
    refine r_new (o_bx [vI a0, pv4, pv9] rfl rfl) fun b12 => ?_
    refine r_u (o_mv rfl) ?_
    refine r_u (o_as rfl) ?_
    refine r_u (o_as rfl) ?_
    refine r_nil ?_
    refine x_seq ?_
    refine c_ret ?_
    refine ex_st (fun _ h => mv2 (mv2 (mv1 h))) ?_
    refine ex_st (fun _ h => st_some (f := tiny_Tiny.op (⟨(pv4, g5), (pv9, g10)⟩ : tiny_Tiny.G)) (a := (⟨a0, r2.1, r7.1⟩ : tiny_Tiny)) (st_star_f (A := tiny_Tiny.fl b12 (⟨a0, r2.1, r7.1⟩ : tiny_Tiny) (⟨(pv4, g5), (pv9, g10)⟩ : tiny_Tiny.G)) h)) ?_
    obtain rfl := Option.some.inj hm11
    exact x_r2 rfl (rv_t rfl) (rv_t rfl) (Le.refl _) ⟨_, rfl, (pt b12 0, (⟨(pv4, g5), (pv9, g10)⟩ : tiny_Tiny.G)), rfl, rfl, rfl⟩

def policy_New (a0 : Int) (a1 : Int) (a2 : UInt64) : Option (Option policy_Policy × Int) :=
  Option.bind (if (a0 == 1) then (arc_New a1).bind fun r15 => some (r15.2, r15.1, none) else Option.bind (if (a0 == 2) then (tiny_New a1 a2).bind fun r29 => some (r29.2, r29.1) else some (1, none)) fun p20 => some (p20.1, none, p20.2)) fun p1 => if (p1.1 != 0) then some (none, p1.1) else some ((some (⟨a0, p1.2.1, p1.2.2⟩ : policy_Policy)), 0)
theorem policy_New.ok {G R F} (a0 : Int) (a1 : Int) (a2 : UInt64) (r : Option policy_Policy × Int) (hm : policy_New a0 a1 a2 = some r) : CO Try.prog 13 [vI a0, vI a1, vW a2] G R (F)
    (Ret fun u R' L' => ∃ (p0 : Value × policy_Policy.G), u = .tuple #[p0.1, vI r.2] ∧ R' = R ∧ L' = rO (policy_Policy.op p0.2) p0.1 r.1 :: F) := by
  unfold policy_New at hm
  refine co_ofN (N := 39) Try.func13 rfl rfl ?_
  refine c_seq ?_
  refine c_reg ?_
  refine r_u (o_as rfl) ?_
  refine r_u (o_as rfl) ?_
  refine r_nil ?_
  refine x_seq ?_
  refine c_seq ?_
  refine c_reg ?_
  refine r_u (o_mv rfl) ?_
  refine r_u (o_bld [vI a0, nl, nl] rfl (fun _ => by kernel_rfl)) ?_
  refine r_new (o_bx [vI a0, nl, nl] rfl rfl) fun b0 => ?_
  refine r_u (o_as rfl) ?_
  refine r_u (o_as rfl) ?_
  refine r_nil ?_
  refine x_seq ?_
  refine c_seq ?_
  refine c_seq ?_
  refine c_reg ?_
  refine r_u (o_mv rfl) ?_
  refine r_nil ?_
  refine x_seq ?_
  refine c_blk ?_
  refine c_seq ?_
  refine c_reg ?_
  refine r_u (o_bin rfl rfl (bI_eq a0 1)) ?_
  refine r_u (o_as rfl) ?_
  refine r_nil ?_
  refine x_seq ?_
  obtain ⟨p1, hp8, hm9⟩ := bs hm
  refine cd_cut (fun x ks => ∀ (pv2 : Value × arc_Arc.G), ∀ (pv5 : Value × tiny_Tiny.G), EX x .normal ks [(8, pt b0 0), (9, vI p1.1)] R (Bk b0 72 [vI a0, pv2.1, pv5.1] :: rO (arc_Arc.op pv2.2) pv2.1 p1.2.1 :: rO (tiny_Tiny.op pv5.2) pv5.1 p1.2.2 :: F)) ?_ fun K10 => ?_
  · intro pv2 pv5
    obtain ⟨pv3, g4⟩ := pv2
    obtain ⟨pv6, g7⟩ := pv5
    refine x_blk ?_
    refine x_seq ?_
    refine c_seq ?_
    refine c_seq ?_
    refine c_reg ?_
    refine r_u (o_mv rfl) ?_
    refine r_u (o_bin rfl rfl (bI_ne p1.1 0)) ?_
    refine r_nil ?_
    refine x_seq ?_
    refine c_if (b := (p1.1 != 0)) rfl (fun h11 => ?_) fun h11 => ?_
    · have hm12 := ift hm9 h11
      clear hm9
      refine c_seq ?_
      refine c_reg ?_
      refine r_u (o_mv rfl) ?_
      refine r_u (o_as rfl) ?_
      refine r_u (o_as rfl) ?_
      refine r_nil ?_
      refine x_seq ?_
      refine c_ret ?_
      refine ex_st (fun _ h => st_none (f := policy_Policy.op default) h) ?_
      obtain rfl := Option.some.inj hm12
      refine ex_st (fun _ h => st_pk 4 [0] (by decide) h) ?_
      exact x_r2 rfl (rv_t rfl) (rv_t rfl) (Le.refl _) ⟨_, rfl, (nl, default), rfl, rfl, rfl⟩
    · have hm12 := iff_ hm9 h11
      clear hm9
      refine c_skip ?_
      refine x_seq ?_
      refine c_seq ?_
      refine c_reg ?_
      refine r_u (o_mv rfl) ?_
      refine r_u (o_as rfl) ?_
      refine r_u (o_as rfl) ?_
      refine r_nil ?_
      refine x_seq ?_
      refine c_ret ?_
      refine ex_st (fun _ h => st_some (f := policy_Policy.op (⟨(pv3, g4), (pv6, g7)⟩ : policy_Policy.G)) (a := (⟨a0, p1.2.1, p1.2.2⟩ : policy_Policy)) (st_star_f (A := policy_Policy.fl b0 (⟨a0, p1.2.1, p1.2.2⟩ : policy_Policy) (⟨(pv3, g4), (pv6, g7)⟩ : policy_Policy.G)) h)) ?_
      obtain rfl := Option.some.inj hm12
      exact x_r2 rfl (rv_t rfl) (rv_t rfl) (Le.refl _) ⟨_, rfl, (pt b0 0, (⟨(pv3, g4), (pv6, g7)⟩ : policy_Policy.G)), rfl, rfl, rfl⟩
  · refine c_if (b := (a0 == 1)) rfl (fun h13 => ?_) fun h13 => ?_
    · have hm14 := ift hp8 h13
      clear hp8
      refine c_reg ?_
      refine r_u (o_mv rfl) ?_
      refine r_u (o_mv rfl) ?_
      obtain ⟨r15, hr15, hm19⟩ := bs hm14
      clear hm14
      refine r_sw (s_w (o_call ca22 rfl (arc_New.ok a1 r15 hr15))) ?_
      rintro _ R _ _ ⟨⟨pv17, g18⟩, rfl, rfl, rfl⟩
      refine r_u (o_mv rfl) ?_
      refine r_u (o_ext rfl rfl) ?_
      refine r_u (o_ext rfl rfl) ?_
      refine r_u (o_nc rfl) ?_
      refine r_u (o_fa fa72_1 rfl) ?_
      refine rl_st (fun _ h => mv1 h) ?_
      refine r_u0 (ou_if (one_p 1 rfl) fun ho0 => o_st sc69 rfl rfl rfl ho0 rfl rfl) ?_
      refine r_u (o_as rfl) ?_
      refine r_nil ?_
      refine ex_st (fun _ h => st_none (f := tiny_Tiny.op default) h) ?_
      obtain rfl := Option.some.inj hm19
      exact x_sub (K10 (pv17, g18) (nl, default)) ⟨rfl, rfl, trivial⟩ (fun _ h => st_pk 3 [1, 2, 0] (by decide) h)
    · have hm14 := iff_ hp8 h13
      clear hp8
      refine c_seq ?_
      refine c_reg ?_
      refine r_u (o_bin rfl rfl (bI_eq a0 2)) ?_
      refine r_u (o_as rfl) ?_
      refine r_nil ?_
      refine x_seq ?_
      obtain ⟨p20, hp24, hm25⟩ := bs hm14
      refine cd_cut (fun x ks => ∀ (pv21 : Value × tiny_Tiny.G), EX x .normal ks [(8, pt b0 0), (9, vI p20.1)] R (Bk b0 72 [vI a0, nl, pv21.1] :: rO (tiny_Tiny.op pv21.2) pv21.1 p20.2 :: F)) ?_ fun K26 => ?_
      · intro pv21
        obtain ⟨pv22, g23⟩ := pv21
        refine ex_st (fun _ h => st_none (f := arc_Arc.op default) h) ?_
        obtain rfl := Option.some.inj hm25
        exact x_sub (K10 (nl, default) (pv22, g23)) ⟨rfl, rfl, trivial⟩ (fun _ h => st_pk 3 [1, 0, 2] (by decide) h)
      · refine c_if (b := (a0 == 2)) rfl (fun h27 => ?_) fun h27 => ?_
        · have hm28 := ift hp24 h27
          clear hp24
          refine c_reg ?_
          refine r_u (o_mv rfl) ?_
          refine r_u (o_mv rfl) ?_
          refine r_u (o_mv rfl) ?_
          obtain ⟨r29, hr29, hm33⟩ := bs hm28
          clear hm28
          refine r_sw (s_w (o_call ca23 rfl (tiny_New.ok a1 a2 r29 hr29))) ?_
          rintro _ R _ _ ⟨⟨pv31, g32⟩, rfl, rfl, rfl⟩
          refine r_u (o_mv rfl) ?_
          refine r_u (o_ext rfl rfl) ?_
          refine r_u (o_ext rfl rfl) ?_
          refine r_u (o_nc rfl) ?_
          refine r_u (o_fa fa72_2 rfl) ?_
          refine rl_st (fun _ h => mv1 h) ?_
          refine r_u0 (ou_if (one_p 1 rfl) fun ho0 => o_st sc70 rfl rfl rfl ho0 rfl rfl) ?_
          refine r_u (o_as rfl) ?_
          refine r_nil ?_
          obtain rfl := Option.some.inj hm33
          exact x_sub (K26 (pv31, g32)) ⟨rfl, rfl, trivial⟩ (fun _ h => st_pk 2 [0, 1] (by decide) h)
        · have hm28 := iff_ hp24 h27
          clear hp24
          refine c_skip ?_
          refine ex_st (fun _ h => st_none (f := tiny_Tiny.op default) h) ?_
          obtain rfl := Option.some.inj hm28
          exact x_sub (K26 (nl, default)) ⟨rfl, rfl, trivial⟩ (fun _ h => st_pk 2 [1, 0] (by decide) h)

def table_New  : Option table_Table :=
  (some (⟨[], 0⟩ : table_Table))
theorem table_New.ok {G R F} (r : Option table_Table) (hm : table_New = r) : CO Try.prog 14 [] G R (F)
    (Ret fun u R' L' => ∃ (p0 : Value × table_Table.G), u = p0.1 ∧ R' = R ∧ L' = rO (table_Table.op p0.2) p0.1 r :: F) := by
  unfold table_New at hm
  refine co_ofN (N := 4) Try.func14 rfl rfl ?_
  refine c_seq ?_
  refine c_reg ?_
  refine r_u (o_as rfl) ?_
  refine r_nil ?_
  refine x_seq ?_
  refine c_seq ?_
  refine c_reg ?_
  refine r_sw (s_w (o_mm (kv := vS) (vv := api_Entry.v))) ?_
  rintro v0 R _ _ ⟨rfl, rfl⟩
  refine r_u (ou_if (hd_m 0 rfl) fun hb0 => o_bld [v0, vI 0] rfl (fun _ => by obtain ⟨_, rfl⟩ := hb0; kernel_rfl)) ?_
  refine r_new (o_bx [v0, vI 0] rfl rfl) fun b1 => ?_
  refine r_u (o_as rfl) ?_
  refine r_nil ?_
  refine x_seq ?_
  refine c_ret ?_
  refine ex_st (fun _ h => st_some (f := table_Table.op (⟨v0⟩ : table_Table.G)) (a := (⟨[], 0⟩ : table_Table)) (st_star_f (A := table_Table.fl b1 (⟨[], 0⟩ : table_Table) (⟨v0⟩ : table_Table.G)) h)) ?_
  subst hm
  exact x_r1 rfl (rv_t rfl) (Le.refl _) ⟨_, rfl, (pt b1 0, (⟨v0⟩ : table_Table.G)), rfl, rfl, rfl⟩

def store_New (a0 : api_Config) : Option (Option store_Store × Int) :=
  if !(store_Check a0) then some (none, 1) else (policy_New a0.Policy a0.Entries a0.Seed).bind fun r3 => lt (table_New) fun r8 => some ((some (⟨a0, r8, r3.1, [], 0, 0, 0, (⟨0, 0⟩ : api_Tally)⟩ : store_Store)), r3.2)
theorem store_New.ok {G R F} (a0 : api_Config) (r : Option store_Store × Int) (hm : store_New a0 = some r) : CO Try.prog 7 [.agg (api_Config.c a0).toArray] G R (F)
    (Ret fun u R' L' => ∃ (p0 : Value × store_Store.G), u = .tuple #[p0.1, vI r.2] ∧ R' = R ∧ L' = rO (store_Store.op p0.2) p0.1 r.1 :: F) := by
  unfold store_New at hm
  refine co_ofN (N := 26) Try.func7 rfl rfl ?_
  refine c_seq ?_
  refine c_reg ?_
  refine r_new (o_bx (api_Config.c a0) rfl rfl) fun b0 => ?_
  refine r_u (o_as rfl) ?_
  refine r_u (o_as rfl) ?_
  refine r_nil ?_
  refine x_seq ?_
  refine c_seq ?_
  refine c_seq ?_
  refine c_reg ?_
  refine r_u (o_ldn 0 (api_Config.c a0) ag29 rfl rfl rfl rfl) ?_
  refine r_u (o_callq ca12 rfl (store_Check.ok a0 _ rfl)) ?_
  refine r_u (o_not rfl) ?_
  refine r_nil ?_
  refine x_seq ?_
  refine c_if (b := !(store_Check a0)) rfl (fun h1 => ?_) fun h1 => ?_
  · have hm2 := ift hm h1
    clear hm
    refine c_seq ?_
    refine c_reg ?_
    refine r_u (o_as rfl) ?_
    refine r_u (o_as rfl) ?_
    refine r_nil ?_
    refine x_seq ?_
    refine c_ret ?_
    refine ex_st (fun _ h => st_none (f := store_Store.op default) h) ?_
    obtain rfl := Option.some.inj hm2
    refine ex_st (fun _ h => st_pk 2 [0] (by decide) h) ?_
    exact x_r2 rfl (rv_t rfl) (rv_t rfl) (Le.refl _) ⟨_, rfl, (nl, default), rfl, rfl, rfl⟩
  · have hm2 := iff_ hm h1
    clear hm
    refine c_skip ?_
    refine x_seq ?_
    refine c_seq ?_
    refine c_reg ?_
    refine r_u (o_fa fa29_0 rfl) ?_
    refine r_u (o_ld 0 sc3 rfl rfl rfl) ?_
    refine r_u (o_fa fa29_1 rfl) ?_
    refine r_u (o_ld 0 sc3 rfl rfl rfl) ?_
    refine r_u (o_fa fa29_3 rfl) ?_
    refine r_u (o_ld 0 sc22 rfl rfl rfl) ?_
    obtain ⟨r3, hr3, hm7⟩ := bs hm2
    clear hm2
    refine r_sw (s_w (o_call ca13 rfl (policy_New.ok a0.Policy a0.Entries a0.Seed r3 hr3))) ?_
    rintro _ R _ _ ⟨⟨pv5, g6⟩, rfl, rfl, rfl⟩
    refine r_u (o_mv rfl) ?_
    refine r_u (o_ext rfl rfl) ?_
    refine r_u (o_ext rfl rfl) ?_
    refine r_u (o_as rfl) ?_
    refine r_u (o_as rfl) ?_
    refine r_nil ?_
    refine x_seq ?_
    refine c_seq ?_
    obtain ⟨r8, hr8, hm12⟩ := ltx hm7
    clear hm7
    refine c_any mixed (effs := [1, 3, 5]) (V := []) ?_
    refine stage_ext [(0, .agg (api_Config.c a0).toArray), (2, pv5), (6, vI r3.2)] rfl ?_
    refine stage rfl rfl rfl rfl [0, 0, 0, 0, 15, 31, 0, 63, 255] [0, 2, 6] [1, 3] rfl rfl rfl (qc rfl rfl (s_u (o_ldn 1 (api_Config.c a0) ag29 rfl rfl rfl rfl)) (qc rfl rfl (s_u (o_mv rfl)) (qc rfl rfl (s_u (o_mv rfl)) qn))) ?_ (fun h => absurd h (by decide))
    refine ec (eo_w rfl (s_w (o_call ca14 rfl (table_New.ok r8 hr8))) ?_) (ec (eo_w rfl (s_w (o_mm (kv := vW) (vv := store_last.v))) ?_) en)
    · rintro pv10 R _ _ ⟨⟨_, g11⟩, rfl, rfl, rfl⟩
      refine stage rfl rfl rfl rfl [0, 0, 0, 0, 15, 31, 0, 63, 255] [0, 2, 6] [3] rfl rfl rfl (qc rfl rfl (s_u (o_ldn 2 (api_Config.c a0) ag29 rfl rfl rfl rfl)) (qc rfl rfl (s_u (o_mv rfl)) (qc rfl rfl (s_u (o_mv rfl)) qn))) ?_ (fun h => absurd h (by decide))
      refine ec (eo_w rfl (s_w (o_mm (kv := vW) (vv := store_last.v))) ?_) en
      rintro v13 R _ _ ⟨rfl, rfl⟩
      refine stage_ext [(4, .agg [vI a0.Policy, vI a0.Entries, vI a0.Bytes, vW a0.Seed, pv10, pv5, v13, vW 0, vW 0, vW 0, vI 0, vI 0].toArray)] rfl ?_
      refine stage rfl rfl rfl rfl [0, 0, 0, 0, 15, 31, 0, 63, 255] [0, 2, 4, 6] [5] rfl rfl rfl (qc rfl rfl (s_u (o_ldn 3 (api_Config.c a0) ag29 rfl rfl rfl rfl)) (qc rfl rfl (s_u (o_mv rfl)) (qc rfl rfl (s_u (ou_if (hd_p 1 rfl) fun hb0 => ou_if (hd_p 2 rfl) fun hb1 => ou_if (hd_m 0 rfl) fun hb2 => o_bld [vI a0.Policy, vI a0.Entries, vI a0.Bytes, vW a0.Seed, pv10, pv5, v13, vW 0, vW 0, vW 0, vI 0, vI 0] rfl (fun _ => by obtain ⟨_, rfl⟩ := hb0; obtain ⟨_, rfl⟩ := hb1; obtain ⟨_, rfl⟩ := hb2; kernel_rfl))) (qc rfl rfl (s_u (o_mv rfl)) qn)))) ?_ (fun h => absurd h (by decide))
      refine ec (eo_n rfl (s_w (o_bx [vI a0.Policy, vI a0.Entries, vI a0.Bytes, vW a0.Seed, pv10, pv5, v13, vW 0, vW 0, vW 0, vI 0, vI 0] rfl rfl)) fun b14 => ?_) en
      refine stage_ext [(7, pt b14 0), (8, vI r3.2)] rfl ?_
      refine stage rfl rfl rfl rfl [0, 0, 0, 0, 15, 31, 0, 63, 255] [6, 7, 8] [] rfl rfl rfl (qc rfl rfl (s_u (o_mv rfl)) (qc rfl rfl (s_u (o_as rfl)) (qc rfl rfl (s_u (o_as rfl)) qn))) en ?_
      intro _
      refine ex_sub (E' := [(2, pt b14 0), (3, vI r3.2)]) ⟨rfl, rfl, trivial⟩ ?_
      refine x_seq ?_
      refine c_ret ?_
      refine ex_st (fun _ h => mv3 (mv3 (mv3 (mv1 h)))) ?_
      refine ex_st (fun _ h => st_some (f := store_Store.op (⟨(pv10, g11), (pv5, g6), v13⟩ : store_Store.G)) (a := (⟨a0, r8, r3.1, [], 0, 0, 0, (⟨0, 0⟩ : api_Tally)⟩ : store_Store)) (st_star_f (A := store_Store.fl b14 (⟨a0, r8, r3.1, [], 0, 0, 0, (⟨0, 0⟩ : api_Tally)⟩ : store_Store) (⟨(pv10, g11), (pv5, g6), v13⟩ : store_Store.G)) h)) ?_
      obtain rfl := Option.some.inj hm12
      refine ex_st (fun _ h => st_pk 2 [0] (by decide) h) ?_
      exact x_r2 rfl (rv_t rfl) (rv_t rfl) (Le.refl _) ⟨_, rfl, (pt b14 0, (⟨(pv10, g11), (pv5, g6), v13⟩ : store_Store.G)), rfl, rfl, rfl⟩
    · rintro v13 R _ _ ⟨rfl, rfl⟩
      refine stage rfl rfl rfl rfl [0, 0, 0, 0, 15, 31, 0, 63, 255] [0, 2, 6] [1] rfl rfl rfl (qc rfl rfl (s_u (o_ldn 2 (api_Config.c a0) ag29 rfl rfl rfl rfl)) (qc rfl rfl (s_u (o_mv rfl)) (qc rfl rfl (s_u (o_mv rfl)) qn))) ?_ (fun h => absurd h (by decide))
      refine ec (eo_w rfl (s_w (o_call ca14 rfl (table_New.ok r8 hr8))) ?_) en
      rintro pv10 R _ _ ⟨⟨_, g11⟩, rfl, rfl, rfl⟩
      refine stage_ext [(4, .agg [vI a0.Policy, vI a0.Entries, vI a0.Bytes, vW a0.Seed, pv10, pv5, v13, vW 0, vW 0, vW 0, vI 0, vI 0].toArray)] rfl ?_
      refine stage rfl rfl rfl rfl [0, 0, 0, 0, 15, 31, 0, 63, 255] [0, 2, 4, 6] [5] rfl rfl rfl (qc rfl rfl (s_u (o_ldn 3 (api_Config.c a0) ag29 rfl rfl rfl rfl)) (qc rfl rfl (s_u (o_mv rfl)) (qc rfl rfl (s_u (ou_if (hd_p 0 rfl) fun hb0 => ou_if (hd_p 2 rfl) fun hb1 => ou_if (hd_m 1 rfl) fun hb2 => o_bld [vI a0.Policy, vI a0.Entries, vI a0.Bytes, vW a0.Seed, pv10, pv5, v13, vW 0, vW 0, vW 0, vI 0, vI 0] rfl (fun _ => by obtain ⟨_, rfl⟩ := hb0; obtain ⟨_, rfl⟩ := hb1; obtain ⟨_, rfl⟩ := hb2; kernel_rfl))) (qc rfl rfl (s_u (o_mv rfl)) qn)))) ?_ (fun h => absurd h (by decide))
      refine ec (eo_n rfl (s_w (o_bx [vI a0.Policy, vI a0.Entries, vI a0.Bytes, vW a0.Seed, pv10, pv5, v13, vW 0, vW 0, vW 0, vI 0, vI 0] rfl rfl)) fun b14 => ?_) en
      refine stage_ext [(7, pt b14 0), (8, vI r3.2)] rfl ?_
      refine stage rfl rfl rfl rfl [0, 0, 0, 0, 15, 31, 0, 63, 255] [6, 7, 8] [] rfl rfl rfl (qc rfl rfl (s_u (o_mv rfl)) (qc rfl rfl (s_u (o_as rfl)) (qc rfl rfl (s_u (o_as rfl)) qn))) en ?_
      intro _
      refine ex_sub (E' := [(2, pt b14 0), (3, vI r3.2)]) ⟨rfl, rfl, trivial⟩ ?_
      refine x_seq ?_
      refine c_ret ?_
      refine ex_st (fun _ h => mv3 (mv3 (mv3 (mv2 h)))) ?_
      refine ex_st (fun _ h => st_some (f := store_Store.op (⟨(pv10, g11), (pv5, g6), v13⟩ : store_Store.G)) (a := (⟨a0, r8, r3.1, [], 0, 0, 0, (⟨0, 0⟩ : api_Tally)⟩ : store_Store)) (st_star_f (A := store_Store.fl b14 (⟨a0, r8, r3.1, [], 0, 0, 0, (⟨0, 0⟩ : api_Tally)⟩ : store_Store) (⟨(pv10, g11), (pv5, g6), v13⟩ : store_Store.G)) h)) ?_
      obtain rfl := Option.some.inj hm12
      refine ex_st (fun _ h => st_pk 2 [0] (by decide) h) ?_
      exact x_r2 rfl (rv_t rfl) (rv_t rfl) (Le.refl _) ⟨_, rfl, (pt b14 0, (⟨(pv10, g11), (pv5, g6), v13⟩ : store_Store.G)), rfl, rfl, rfl⟩

end Go.Proofs.Ytpanhdnglicknaa
