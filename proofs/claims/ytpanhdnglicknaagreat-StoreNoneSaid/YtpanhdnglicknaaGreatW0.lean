import Derived.Test.YtpanhdnglicknaaGreatFacts
import Derived.Test.YtpanhdnglicknaaGreatHwZ
set_option linter.unusedVariables false
set_option linter.unusedSectionVars false
set_option linter.unusedSimpArgs false
set_option maxRecDepth 100000
set_option maxHeartbeats 8000000
namespace Go.Proofs.YtpanhdnglicknaaGreat
open Go Go.Proofs.YtpanhdnglicknaaGreat.Hw
structure api_Config where
  Policy : Int
  Entries : Int
  Bytes : Int
  Seed : UInt64
  deriving DecidableEq, Inhabited
def api_Config.c (x : api_Config) : List _root_.Go.Value := [vI x.Policy, vI x.Entries, vI x.Bytes, vW x.Seed]
abbrev api_Config.v (x : api_Config) : _root_.Go.Value := .agg (api_Config.c x).toArray
structure api_Op where
  Kind : Int
  Key : Str
  Value : Str
  TTL : UInt64
  Version : UInt64
  deriving DecidableEq, Inhabited
def api_Op.c (x : api_Op) : List _root_.Go.Value := [vI x.Kind, vS x.Key, vS x.Value, vW x.TTL, vW x.Version]
abbrev api_Op.v (x : api_Op) : _root_.Go.Value := .agg (api_Op.c x).toArray
structure hawthornlaw12_Act where
  Ticks : UInt64
  Session : UInt64
  Num : UInt64
  Op : api_Op
  Skip : Int
  deriving DecidableEq, Inhabited
def hawthornlaw12_Act.c (x : hawthornlaw12_Act) : List _root_.Go.Value := [vW x.Ticks, vW x.Session, vW x.Num, vI x.Op.Kind, vS x.Op.Key, vS x.Op.Value, vW x.Op.TTL, vW x.Op.Version, vI x.Skip]
abbrev hawthornlaw12_Act.v (x : hawthornlaw12_Act) : _root_.Go.Value := .agg (hawthornlaw12_Act.c x).toArray
structure api_Record where
  Seq : UInt64
  Now : UInt64
  Session : UInt64
  Num : UInt64
  Op : api_Op
  deriving DecidableEq, Inhabited
def api_Record.c (x : api_Record) : List _root_.Go.Value := [vW x.Seq, vW x.Now, vW x.Session, vW x.Num, vI x.Op.Kind, vS x.Op.Key, vS x.Op.Value, vW x.Op.TTL, vW x.Op.Version]
abbrev api_Record.v (x : api_Record) : _root_.Go.Value := .agg (api_Record.c x).toArray
structure api_Reply where
  E : Int
  Value : Str
  Version : UInt64
  deriving DecidableEq, Inhabited
def api_Reply.c (x : api_Reply) : List _root_.Go.Value := [vI x.E, vS x.Value, vW x.Version]
abbrev api_Reply.v (x : api_Reply) : _root_.Go.Value := .agg (api_Reply.c x).toArray
structure api_Entry where
  Key : Str
  Value : Str
  Version : UInt64
  End : UInt64
  deriving DecidableEq, Inhabited
def api_Entry.c (x : api_Entry) : List _root_.Go.Value := [vS x.Key, vS x.Value, vW x.Version, vW x.End]
abbrev api_Entry.v (x : api_Entry) : _root_.Go.Value := .agg (api_Entry.c x).toArray
structure table_Table where
  m : List (Str × api_Entry)
  bytes : Int
  deriving DecidableEq, Inhabited
structure table_Table.G where
  m : _root_.Go.Value

instance : Inhabited table_Table.G := ⟨⟨nl⟩⟩
def table_Table.fl (b : Nat) (x : table_Table) (g : table_Table.G) : List HP := [Bk b 138 [g.m, vI x.bytes], OwM vS api_Entry.v g.m x.m]
def table_Table.op (g : table_Table.G) : Nat → table_Table → HP := fun b x => star (table_Table.fl b x g)
structure ring_slot where
  key : Str
  list : Int
  prev : Int
  next : Int
  deriving DecidableEq, Inhabited
def ring_slot.c (x : ring_slot) : List _root_.Go.Value := [vS x.key, vI x.list, vI x.prev, vI x.next]
abbrev ring_slot.v (x : ring_slot) : _root_.Go.Value := .agg (ring_slot.c x).toArray
structure ring_Rings where
  lists : Int
  slots : List ring_slot
  free : List Int
  at_ : List (Str × Int)
  many : List Int
  deriving DecidableEq, Inhabited
structure ring_Rings.G where
  slots : _root_.Go.Value
  free : _root_.Go.Value
  at_ : _root_.Go.Value
  many : _root_.Go.Value

instance : Inhabited ring_Rings.G := ⟨⟨nl, nl, nl, nl⟩⟩
def ring_Rings.fl (b : Nat) (x : ring_Rings) (g : ring_Rings.G) : List HP := [Bk b 237 [vI x.lists, g.slots, g.free, g.at_, g.many], OwS true 240 4 ring_slot.c g.slots x.slots, OwS true 3 1 eI g.free x.free, OwM vS vI g.at_ x.at_, OwS true 3 1 eI g.many x.many]
def ring_Rings.op (g : ring_Rings.G) : Nat → ring_Rings → HP := fun b x => star (ring_Rings.fl b x g)
structure arc_Arc where
  most : Int
  target : Int
  r : Option ring_Rings
  deriving DecidableEq, Inhabited
structure arc_Arc.G where
  r : _root_.Go.Value × ring_Rings.G

instance : Inhabited arc_Arc.G := ⟨⟨(nl, default)⟩⟩
def arc_Arc.fl (b : Nat) (x : arc_Arc) (g : arc_Arc.G) : List HP := [Bk b 193 [vI x.most, vI x.target, g.r.1], rO (ring_Rings.op g.r.2) g.r.1 x.r]
def arc_Arc.op (g : arc_Arc.G) : Nat → arc_Arc → HP := fun b x => star (arc_Arc.fl b x g)
structure sketch_Sketch where
  wide : Int
  seed : UInt64
  rows : List (List UInt8)
  door : List Bool
  added : Int
  deriving DecidableEq, Inhabited
structure sketch_Sketch.G where
  rows : _root_.Go.Value × _root_.Go.Value × _root_.Go.Value × _root_.Go.Value
  door : _root_.Go.Value

instance : Inhabited sketch_Sketch.G := ⟨⟨(nl, nl, nl, nl), nl⟩⟩
def sketch_Sketch.fl (b : Nat) (x : sketch_Sketch) (g : sketch_Sketch.G) : List HP := [Bk b 250 [vI x.wide, vW x.seed, g.rows.1, g.rows.2.1, g.rows.2.2.1, g.rows.2.2.2, g.door, vI x.added], OwL (OwS false 5 1 eY) [g.rows.1, g.rows.2.1, g.rows.2.2.1, g.rows.2.2.2] x.rows, OwS true 4 1 eB g.door x.door]
def sketch_Sketch.op (g : sketch_Sketch.G) : Nat → sketch_Sketch → HP := fun b x => star (sketch_Sketch.fl b x g)
structure tiny_Tiny where
  most : Int
  s : Option sketch_Sketch
  r : Option ring_Rings
  deriving DecidableEq, Inhabited
structure tiny_Tiny.G where
  s : _root_.Go.Value × sketch_Sketch.G
  r : _root_.Go.Value × ring_Rings.G

instance : Inhabited tiny_Tiny.G := ⟨⟨(nl, default), (nl, default)⟩⟩
def tiny_Tiny.fl (b : Nat) (x : tiny_Tiny) (g : tiny_Tiny.G) : List HP := [Bk b 196 [vI x.most, g.s.1, g.r.1], rO (sketch_Sketch.op g.s.2) g.s.1 x.s, rO (ring_Rings.op g.r.2) g.r.1 x.r]
def tiny_Tiny.op (g : tiny_Tiny.G) : Nat → tiny_Tiny → HP := fun b x => star (tiny_Tiny.fl b x g)
structure policy_Policy where
  kind : Int
  a : Option arc_Arc
  t : Option tiny_Tiny
  deriving DecidableEq, Inhabited
structure policy_Policy.G where
  a : _root_.Go.Value × arc_Arc.G
  t : _root_.Go.Value × tiny_Tiny.G

instance : Inhabited policy_Policy.G := ⟨⟨(nl, default), (nl, default)⟩⟩
def policy_Policy.fl (b : Nat) (x : policy_Policy) (g : policy_Policy.G) : List HP := [Bk b 144 [vI x.kind, g.a.1, g.t.1], rO (arc_Arc.op g.a.2) g.a.1 x.a, rO (tiny_Tiny.op g.t.2) g.t.1 x.t]
def policy_Policy.op (g : policy_Policy.G) : Nat → policy_Policy → HP := fun b x => star (policy_Policy.fl b x g)
structure store_last where
  num : UInt64
  reply : api_Reply
  deriving DecidableEq, Inhabited
def store_last.c (x : store_last) : List _root_.Go.Value := [vW x.num, vI x.reply.E, vS x.reply.Value, vW x.reply.Version]
abbrev store_last.v (x : store_last) : _root_.Go.Value := .agg (store_last.c x).toArray
structure api_Tally where
  Asked : Int
  Hits : Int
  deriving DecidableEq, Inhabited
def api_Tally.c (x : api_Tally) : List _root_.Go.Value := [vI x.Asked, vI x.Hits]
abbrev api_Tally.v (x : api_Tally) : _root_.Go.Value := .agg (api_Tally.c x).toArray
structure store_Store where
  c : api_Config
  t : Option table_Table
  p : Option policy_Policy
  sessions : List (UInt64 × store_last)
  seq : UInt64
  now : UInt64
  version : UInt64
  tally : api_Tally
  deriving DecidableEq, Inhabited
structure store_Store.G where
  t : _root_.Go.Value × table_Table.G
  p : _root_.Go.Value × policy_Policy.G
  sessions : _root_.Go.Value

instance : Inhabited store_Store.G := ⟨⟨(nl, default), (nl, default), nl⟩⟩
def store_Store.fl (b : Nat) (x : store_Store) (g : store_Store.G) : List HP := [Bk b 96 [vI x.c.Policy, vI x.c.Entries, vI x.c.Bytes, vW x.c.Seed, g.t.1, g.p.1, g.sessions, vW x.seq, vW x.now, vW x.version, vI x.tally.Asked, vI x.tally.Hits], rO (table_Table.op g.t.2) g.t.1 x.t, rO (policy_Policy.op g.p.2) g.p.1 x.p, OwM vW store_last.v g.sessions x.sessions]
def store_Store.op (g : store_Store.G) : Nat → store_Store → HP := fun b x => star (store_Store.fl b x g)
structure api_Parts where
  Window : Int
  Protected : Int
  deriving DecidableEq, Inhabited
def api_Parts.c (x : api_Parts) : List _root_.Go.Value := [vI x.Window, vI x.Protected]
abbrev api_Parts.v (x : api_Parts) : _root_.Go.Value := .agg (api_Parts.c x).toArray
theorem api_Config.eqt24 (d : Nat) (a b : api_Config) : EqT Tryz.prog (d + 1) 24 (.agg (api_Config.c a).toArray) (.agg (api_Config.c b).toArray) (decide (a = b)) :=
  EqT.st Tryz.underlying24 Tryz.stoodInHeld24 (EqF.cons (a := vI a.Policy) (b := vI b.Policy) (fun _ => by kernel_rfl) (fun _ => by kernel_rfl) rfl (EqT.I _ Tryz.underlying3 _ _) <| EqF.cons (a := vI a.Entries) (b := vI b.Entries) (fun _ => by kernel_rfl) (fun _ => by kernel_rfl) rfl (EqT.I _ Tryz.underlying3 _ _) <| EqF.cons (a := vI a.Bytes) (b := vI b.Bytes) (fun _ => by kernel_rfl) (fun _ => by kernel_rfl) rfl (EqT.I _ Tryz.underlying3 _ _) <| EqF.cons (a := vW a.Seed) (b := vW b.Seed) (fun _ => by kernel_rfl) (fun _ => by kernel_rfl) rfl (EqT.W _ Tryz.underlying22 _ _) <| EqF.nil) (by cases a; cases b; rw [Bool.eq_iff_iff]; simp)
theorem api_Config.beq_24 (a b : api_Config) : Bop Tryz.prog .eql 24 (.agg (api_Config.c a).toArray) (.agg (api_Config.c b).toArray) (vB (decide (a = b))) := EqT.bop Tryz.eqGuardType24 (api_Config.eqt24 9998 a b)
theorem api_Config.bne_24 (a b : api_Config) : Bop Tryz.prog .neq 24 (.agg (api_Config.c a).toArray) (.agg (api_Config.c b).toArray) (vB (!decide (a = b))) := EqT.bon Tryz.eqGuardType24 (api_Config.eqt24 9998 a b)
theorem api_Op.eqt27 (d : Nat) (a b : api_Op) : EqT Tryz.prog (d + 1) 27 (.agg (api_Op.c a).toArray) (.agg (api_Op.c b).toArray) (decide (a = b)) :=
  EqT.st Tryz.underlying27 Tryz.stoodInHeld27 (EqF.cons (a := vI a.Kind) (b := vI b.Kind) (fun _ => by kernel_rfl) (fun _ => by kernel_rfl) rfl (EqT.I _ Tryz.underlying3 _ _) <| EqF.cons (a := vS a.Key) (b := vS b.Key) (fun _ => by kernel_rfl) (fun _ => by kernel_rfl) rfl (EqT.S _ Tryz.underlying9 _ _) <| EqF.cons (a := vS a.Value) (b := vS b.Value) (fun _ => by kernel_rfl) (fun _ => by kernel_rfl) rfl (EqT.S _ Tryz.underlying9 _ _) <| EqF.cons (a := vW a.TTL) (b := vW b.TTL) (fun _ => by kernel_rfl) (fun _ => by kernel_rfl) rfl (EqT.W _ Tryz.underlying22 _ _) <| EqF.cons (a := vW a.Version) (b := vW b.Version) (fun _ => by kernel_rfl) (fun _ => by kernel_rfl) rfl (EqT.W _ Tryz.underlying22 _ _) <| EqF.nil) (by cases a; cases b; rw [Bool.eq_iff_iff]; simp)
theorem api_Op.beq_27 (a b : api_Op) : Bop Tryz.prog .eql 27 (.agg (api_Op.c a).toArray) (.agg (api_Op.c b).toArray) (vB (decide (a = b))) := EqT.bop Tryz.eqGuardType27 (api_Op.eqt27 9998 a b)
theorem api_Op.bne_27 (a b : api_Op) : Bop Tryz.prog .neq 27 (.agg (api_Op.c a).toArray) (.agg (api_Op.c b).toArray) (vB (!decide (a = b))) := EqT.bon Tryz.eqGuardType27 (api_Op.eqt27 9998 a b)
theorem api_Tally.eqt47 (d : Nat) (a b : api_Tally) : EqT Tryz.prog (d + 1) 47 (.agg (api_Tally.c a).toArray) (.agg (api_Tally.c b).toArray) (decide (a = b)) :=
  EqT.st Tryz.underlying47 Tryz.stoodInHeld47 (EqF.cons (a := vI a.Asked) (b := vI b.Asked) (fun _ => by kernel_rfl) (fun _ => by kernel_rfl) rfl (EqT.I _ Tryz.underlying2 _ _) <| EqF.cons (a := vI a.Hits) (b := vI b.Hits) (fun _ => by kernel_rfl) (fun _ => by kernel_rfl) rfl (EqT.I _ Tryz.underlying2 _ _) <| EqF.nil) (by cases a; cases b; rw [Bool.eq_iff_iff]; simp)
theorem api_Tally.beq_47 (a b : api_Tally) : Bop Tryz.prog .eql 47 (.agg (api_Tally.c a).toArray) (.agg (api_Tally.c b).toArray) (vB (decide (a = b))) := EqT.bop Tryz.eqGuardType47 (api_Tally.eqt47 9998 a b)
theorem api_Tally.bne_47 (a b : api_Tally) : Bop Tryz.prog .neq 47 (.agg (api_Tally.c a).toArray) (.agg (api_Tally.c b).toArray) (vB (!decide (a = b))) := EqT.bon Tryz.eqGuardType47 (api_Tally.eqt47 9998 a b)

def hawthornlaw12_record (a0 : UInt64) (a1 : UInt64) (a2 : hawthornlaw12_Act) : Option (api_Record × UInt64) :=
  Option.bind (if decide (70 < (a2.Op.Key.length : Int)) then (sl a2.Op.Key 0 70).bind fun s23 => some s23 else some a2.Op.Key) fun p3 => Option.bind (if decide (1200 < (a2.Op.Value.length : Int)) then (sl a2.Op.Value 0 1200).bind fun s19 => some s19 else some a2.Op.Value) fun p7 => Option.bind (if decide (a2.Ticks ≤ 100) then some (a1 + a2.Ticks) else some a1) fun p11 => some ((⟨(a0 + 1) + ((toW (iand a2.Skip 3)) / 3), p11, a2.Session &&& 7, a2.Num &&& 31, (⟨a2.Op.Kind, p3, p7, a2.Op.TTL, a2.Op.Version⟩ : api_Op)⟩ : api_Record), p11)
theorem hawthornlaw12_record.ok {G R F} (a0 : UInt64) (a1 : UInt64) (a2 : hawthornlaw12_Act) (r : api_Record × UInt64) (hm : hawthornlaw12_record a0 a1 a2 = some r) : CO Tryz.prog 13 [vW a0, vW a1, .agg (hawthornlaw12_Act.c a2).toArray] G R (F)
    (Ret fun u R' L' => u = .tuple #[.agg (api_Record.c r.1).toArray, vW r.2] ∧ R' = R ∧ L' = F) := by
  unfold hawthornlaw12_record at hm
  refine co_ofN (N := 54) Tryz.func13 rfl rfl ?_
  refine c_seq ?_
  refine c_reg ?_
  refine r_new (o_bx (hawthornlaw12_Act.c a2) rfl rfl) fun b0 => ?_
  refine r_new (o_al ze35) fun b1 => ?_
  refine r_u (o_as rfl) ?_
  refine r_nil ?_
  refine x_seq ?_
  refine c_seq ?_
  refine c_reg ?_
  refine r_u (o_fa fa29_3 rfl) ?_
  refine r_u (o_ldn 1 (api_Op.c a2.Op) ag27 rfl rfl rfl rfl) ?_
  refine r_new (o_al ze27) fun b2 => ?_
  refine r_u0 (o_stn ag27 rfl rfl rfl rfl rfl rfl rfl) ?_
  refine r_nil ?_
  refine x_seq ?_
  refine c_seq ?_
  refine c_seq ?_
  refine c_reg ?_
  refine r_u (o_fa fa27_1 rfl) ?_
  refine r_u (o_ld 0 sc9 rfl rfl rfl) ?_
  refine r_u (o_lenS Tryz.underlying9 rfl) ?_
  refine r_u (o_bin rfl rfl (bI_gt (a2.Op.Key.length : Int) 70)) ?_
  refine r_nil ?_
  refine x_seq ?_
  obtain ⟨p3, hp4, hm5⟩ := bs hm
  refine cd_join (E' := [(0, vW a0), (1, vW a1), (5, pt b0 0), (6, pt b1 0), (8, pt b2 0)]) (L' := Bk b2 27 [vI a2.Op.Kind, vS p3, vS a2.Op.Value, vW a2.Op.TTL, vW a2.Op.Version] :: Bk b1 35 [vW 0, vW 0, vW 0, vW 0, vI 0, vS [], vS [], vW 0, vW 0] :: Bk b0 29 (hawthornlaw12_Act.c a2) :: F) ?_ fun K6 => ?_
  · refine x_seq ?_
    refine c_seq ?_
    refine c_seq ?_
    refine c_reg ?_
    refine r_u (o_fa fa27_2 rfl) ?_
    refine r_u (o_ld 0 sc9 rfl rfl rfl) ?_
    refine r_u (o_lenS Tryz.underlying9 rfl) ?_
    refine r_u (o_bin rfl rfl (bI_gt (a2.Op.Value.length : Int) 1200)) ?_
    refine r_nil ?_
    refine x_seq ?_
    obtain ⟨p7, hp8, hm9⟩ := bs hm5
    refine cd_join (E' := [(0, vW a0), (1, vW a1), (5, pt b0 0), (6, pt b1 0), (8, pt b2 0)]) (L' := Bk b2 27 [vI a2.Op.Kind, vS p3, vS p7, vW a2.Op.TTL, vW a2.Op.Version] :: Bk b1 35 [vW 0, vW 0, vW 0, vW 0, vI 0, vS [], vS [], vW 0, vW 0] :: Bk b0 29 (hawthornlaw12_Act.c a2) :: F) ?_ fun K10 => ?_
    · refine x_seq ?_
      refine c_seq ?_
      refine c_reg ?_
      refine r_u (o_mv rfl) ?_
      refine r_u (o_as rfl) ?_
      refine r_nil ?_
      refine x_seq ?_
      refine c_seq ?_
      refine c_seq ?_
      refine c_reg ?_
      refine r_u (o_fa fa29_0 rfl) ?_
      refine r_u (o_ld 2 sc22 rfl rfl rfl) ?_
      refine r_u (o_bin rfl rfl (bW_le a2.Ticks 100)) ?_
      refine r_nil ?_
      refine x_seq ?_
      obtain ⟨p11, hp12, hm13⟩ := bs hm9
      refine cd_join (E' := [(0, vW a0), (5, pt b0 0), (6, pt b1 0), (8, pt b2 0), (9, vW p11)]) (L' := Bk b2 27 [vI a2.Op.Kind, vS p3, vS p7, vW a2.Op.TTL, vW a2.Op.Version] :: Bk b1 35 [vW 0, vW 0, vW 0, vW 0, vI 0, vS [], vS [], vW 0, vW 0] :: Bk b0 29 (hawthornlaw12_Act.c a2) :: F) ?_ fun K14 => ?_
      · refine x_seq ?_
        refine c_seq ?_
        refine c_reg ?_
        refine r_u (o_mv rfl) ?_
        refine r_u (o_bin rfl rfl (bW_add a0 1)) ?_
        refine r_u (o_fa fa29_4 rfl) ?_
        refine r_u (o_ld 2 sc3 rfl rfl rfl) ?_
        refine r_u (o_bin rfl rfl (bI_and a2.Skip 3)) ?_
        refine r_u (o_cv rfl (cIW Tryz.underlying3 Tryz.underlying22 (iand a2.Skip 3))) ?_
        refine r_u (o_bin rfl rfl (bW_quo (toW (iand a2.Skip 3)) 3 (by decide))) ?_
        refine r_u (o_bin rfl rfl (bW_add (a0 + 1) ((toW (iand a2.Skip 3)) / 3))) ?_
        refine r_u (o_mv rfl) ?_
        refine r_u (o_fa fa29_1 rfl) ?_
        refine r_u (o_ld 2 sc22 rfl rfl rfl) ?_
        refine r_u (o_bin rfl rfl (bW_and a2.Session 7)) ?_
        refine r_u (o_fa fa29_2 rfl) ?_
        refine r_u (o_ld 2 sc22 rfl rfl rfl) ?_
        refine r_u (o_bin rfl rfl (bW_and a2.Num 31)) ?_
        refine r_u (o_ldn 0 [vI a2.Op.Kind, vS p3, vS p7, vW a2.Op.TTL, vW a2.Op.Version] ag27 rfl rfl rfl rfl) ?_
        refine r_u (o_bld [vW ((a0 + 1) + ((toW (iand a2.Skip 3)) / 3)), vW p11, vW (a2.Session &&& 7), vW (a2.Num &&& 31), vI a2.Op.Kind, vS p3, vS p7, vW a2.Op.TTL, vW a2.Op.Version] rfl (fun _ => by kernel_rfl)) ?_
        refine r_u (o_mv rfl) ?_
        refine rl_st (fun _ h => mv1 h) ?_
        refine r_u0 (o_stn ag35 rfl rfl rfl rfl rfl rfl rfl) ?_
        refine r_u (o_as rfl) ?_
        refine r_nil ?_
        refine x_seq ?_
        refine c_ret ?_
        obtain rfl := Option.some.inj hm13
        exact x_d2 rfl (rv_n 0 [vW ((a0 + 1) + ((toW (iand a2.Skip 3)) / 3)), vW p11, vW (a2.Session &&& 7), vW (a2.Num &&& 31), vI a2.Op.Kind, vS p3, vS p7, vW a2.Op.TTL, vW a2.Op.Version] ag35 rfl rfl rfl rfl) (rv_t rfl) (fun _ h => st_pk 3 [] (by decide) h) (Le.refl _) ⟨_, rfl, rfl, rfl, rfl⟩
      · refine c_if (b := decide (a2.Ticks ≤ 100)) rfl (fun h15 => ?_) fun h15 => ?_
        · have hm16 := ift hp12 h15
          clear hp12
          refine c_reg ?_
          refine r_u (o_mv rfl) ?_
          refine r_u (o_fa fa29_0 rfl) ?_
          refine r_u (o_ld 2 sc22 rfl rfl rfl) ?_
          refine r_u (o_bin rfl rfl (bW_add a1 a2.Ticks)) ?_
          refine r_u (o_as rfl) ?_
          refine r_nil ?_
          obtain rfl := Option.some.inj hm16
          exact x_sub K14 ⟨rfl, rfl, rfl, rfl, rfl, trivial⟩ (fun _ h => st_pk 3 [0, 1, 2] (by decide) h)
        · have hm16 := iff_ hp12 h15
          clear hp12
          refine c_skip ?_
          obtain rfl := Option.some.inj hm16
          exact x_sub K14 ⟨rfl, rfl, rfl, rfl, rfl, trivial⟩ (fun _ h => st_pk 3 [0, 1, 2] (by decide) h)
    · refine c_if (b := decide (1200 < (a2.Op.Value.length : Int))) rfl (fun h17 => ?_) fun h17 => ?_
      · have hm18 := ift hp8 h17
        clear hp8
        refine c_reg ?_
        refine r_u (o_fa fa27_2 rfl) ?_
        refine r_u (o_ld 0 sc9 rfl rfl rfl) ?_
        obtain ⟨s19, hs19, hm20⟩ := bs hm18
        clear hm18
        refine r_u (o_slS (i := 0) (j := 1200) Tryz.underlying9 rfl rfl rfl hs19) ?_
        refine r_u (o_fa fa27_2 rfl) ?_
        refine r_u0 (o_st sc9 rfl rfl rfl rfl rfl rfl) ?_
        refine r_nil ?_
        obtain rfl := Option.some.inj hm20
        exact x_sub K10 ⟨rfl, rfl, rfl, rfl, rfl, trivial⟩ (fun _ h => st_pk 3 [0, 1, 2] (by decide) h)
      · have hm18 := iff_ hp8 h17
        clear hp8
        refine c_skip ?_
        obtain rfl := Option.some.inj hm18
        exact x_sub K10 ⟨rfl, rfl, rfl, rfl, rfl, trivial⟩ (fun _ h => st_pk 3 [0, 1, 2] (by decide) h)
  · refine c_if (b := decide (70 < (a2.Op.Key.length : Int))) rfl (fun h21 => ?_) fun h21 => ?_
    · have hm22 := ift hp4 h21
      clear hp4
      refine c_reg ?_
      refine r_u (o_fa fa27_1 rfl) ?_
      refine r_u (o_ld 0 sc9 rfl rfl rfl) ?_
      obtain ⟨s23, hs23, hm24⟩ := bs hm22
      clear hm22
      refine r_u (o_slS (i := 0) (j := 70) Tryz.underlying9 rfl rfl rfl hs23) ?_
      refine r_u (o_fa fa27_1 rfl) ?_
      refine r_u0 (o_st sc9 rfl rfl rfl rfl rfl rfl) ?_
      refine r_nil ?_
      obtain rfl := Option.some.inj hm24
      exact x_sub K6 ⟨rfl, rfl, rfl, rfl, rfl, trivial⟩ (fun _ h => st_pk 3 [0, 1, 2] (by decide) h)
    · have hm22 := iff_ hp4 h21
      clear hp4
      refine c_skip ?_
      obtain rfl := Option.some.inj hm22
      exact x_sub K6 ⟨rfl, rfl, rfl, rfl, rfl, trivial⟩ (fun _ h => st_pk 3 [0, 1, 2] (by decide) h)

def store_Store_Apply_n (a1 : api_Record) : api_Reply × Int :=
  ((⟨0, [], 0⟩ : api_Reply), 1)
theorem store_Store_Apply_n.ok {G R F} (a1 : api_Record) (r : api_Reply × Int) (hm : store_Store_Apply_n a1 = r) : CO Tryz.prog 15 [nl, .agg (api_Record.c a1).toArray] G R (F)
    (Ret fun u R' L' => u = .tuple #[.agg (api_Reply.c r.1).toArray, vI r.2] ∧ R' = R ∧ L' = F) := by
  unfold store_Store_Apply_n at hm
  refine co_ofN (N := 143) Tryz.func15 rfl rfl ?_
  refine c_seq ?_
  refine c_reg ?_
  refine r_new (o_bx (api_Record.c a1) rfl rfl) fun b0 => ?_
  refine r_new (o_al ze41) fun b1 => ?_
  refine r_u (o_as rfl) ?_
  refine r_nil ?_
  refine x_seq ?_
  refine c_seq ?_
  refine c_blk ?_
  refine c_seq ?_
  refine c_reg ?_
  refine r_u (o_mv rfl) ?_
  refine r_u (o_bin rfl rfl (bP_eqn Tryz.underlying30)) ?_
  refine r_u (o_mv rfl) ?_
  refine r_s (s_n rfl rfl rfl) ?_
  refine r_s (s_n rfl rfl rfl) ?_
  refine r_s (s_n rfl rfl rfl) ?_
  refine r_s (s_n rfl rfl rfl) ?_
  refine r_u (o_pt rfl rfl rfl) ?_
  refine r_u (o_as rfl) ?_
  refine r_nil ?_
  refine x_seq ?_
  refine c_tt rfl ?_
  refine c_seq ?_
  refine c_reg ?_
  refine r_u (o_bld [vI 0, vS [], vW 0] rfl (fun _ => by kernel_rfl)) ?_
  refine r_u0 (o_stn ag41 rfl rfl rfl rfl rfl rfl rfl) ?_
  refine r_u (o_as rfl) ?_
  refine r_nil ?_
  refine x_seq ?_
  refine c_ret ?_
  subst hm
  exact x_d2 rfl (rv_n 0 [vI 0, vS [], vW 0] ag41 rfl rfl rfl rfl) (rv_t rfl) (fun _ h => st_pk 2 [] (by decide) h) (Le.refl _) ⟨_, rfl, rfl, rfl, rfl⟩

def store_Store_Told_n (a1 : UInt64) : UInt64 × api_Reply × Bool :=
  (0, (⟨0, [], 0⟩ : api_Reply), false)
theorem store_Store_Told_n.ok {G R F} (a1 : UInt64) (r : UInt64 × api_Reply × Bool) (hm : store_Store_Told_n a1 = r) : CO Tryz.prog 21 [nl, vW a1] G R (F)
    (Ret fun u R' L' => u = .tuple #[vW r.1, .agg (api_Reply.c r.2.1).toArray, vB r.2.2] ∧ R' = R ∧ L' = F) := by
  unfold store_Store_Told_n at hm
  refine co_ofN (N := 26) Tryz.func21 rfl rfl ?_
  refine c_seq ?_
  refine c_reg ?_
  refine r_u (o_as rfl) ?_
  refine r_new (o_al ze41) fun b0 => ?_
  refine r_u (o_as rfl) ?_
  refine r_nil ?_
  refine x_seq ?_
  refine c_seq ?_
  refine c_seq ?_
  refine c_reg ?_
  refine r_u (o_mv rfl) ?_
  refine r_u (o_bin rfl rfl (bP_eqn Tryz.underlying30)) ?_
  refine r_nil ?_
  refine x_seq ?_
  refine c_tt rfl ?_
  refine c_seq ?_
  refine c_reg ?_
  refine r_u (o_bld [vI 0, vS [], vW 0] rfl (fun _ => by kernel_rfl)) ?_
  refine r_u (o_as rfl) ?_
  refine r_u0 (o_stn ag41 rfl rfl rfl rfl rfl rfl rfl) ?_
  refine r_u (o_as rfl) ?_
  refine r_nil ?_
  refine x_seq ?_
  refine c_ret ?_
  subst hm
  exact x_d3 rfl (rv_t rfl) (rv_n 0 [vI 0, vS [], vW 0] ag41 rfl rfl rfl rfl) (rv_t rfl) (fun _ h => st_pk 1 [] (by decide) h) (Le.refl _) ⟨_, rfl, rfl, rfl, rfl⟩

def store_Check (a0 : api_Config) : Bool :=
  ((((((a0.Policy == 1) || (a0.Policy == 2)) && decide (1 ≤ a0.Entries)) && decide (a0.Entries ≤ 1000)) && decide (1 ≤ a0.Bytes)) && decide (a0.Bytes ≤ 1048576))
theorem store_Check.ok {G R F} (a0 : api_Config) (r : Bool) (hm : store_Check a0 = r) : CO Tryz.prog 29 [.agg (api_Config.c a0).toArray] G R (F)
    (Ret fun u R' L' => u = vB r ∧ R' = R ∧ L' = F) := by
  unfold store_Check at hm
  refine co_ofN (N := 33) Tryz.func29 rfl rfl ?_
  refine c_seq ?_
  refine c_reg ?_
  refine r_new (o_bx (api_Config.c a0) rfl rfl) fun b0 => ?_
  refine r_u (o_as rfl) ?_
  refine r_nil ?_
  refine x_seq ?_
  refine c_seq ?_
  refine c_reg ?_
  refine r_u (o_fa fa24_0 rfl) ?_
  refine r_u (o_ld 0 sc3 rfl rfl rfl) ?_
  refine r_u (o_bin rfl rfl (bI_eq a0.Policy 1)) ?_
  refine r_u (o_mv rfl) ?_
  refine r_s (s_gf rfl rfl fun g => o_fa fa24_0 rfl) ?_
  refine r_s (s_gf rfl rfl fun g => o_ld 0 sc3 (evg rfl g) rfl rfl) ?_
  refine r_s (s_gf rfl rfl fun g => o_bin (evg rfl g) rfl (bI_eq a0.Policy 2)) ?_
  refine r_u (o_or rfl rfl) ?_
  refine r_u (o_as rfl) ?_
  refine r_nil ?_
  refine x_seq ?_
  refine c_seq ?_
  refine c_reg ?_
  refine r_u (o_mv rfl) ?_
  refine r_u (o_mv rfl) ?_
  refine r_s (s_gt rfl rfl fun g => o_fa fa24_1 rfl) ?_
  refine r_s (s_gt rfl rfl fun g => o_ld 0 sc3 (evg rfl g) rfl rfl) ?_
  refine r_s (s_gt rfl rfl fun g => o_bin (evg rfl g) rfl (bI_ge a0.Entries 1)) ?_
  refine r_u (o_and rfl rfl) ?_
  refine r_u (o_mv rfl) ?_
  refine r_s (s_gt rfl rfl fun g => o_fa fa24_1 rfl) ?_
  refine r_s (s_gt rfl rfl fun g => o_ld 0 sc3 (evg rfl g) rfl rfl) ?_
  refine r_s (s_gt rfl rfl fun g => o_bin (evg rfl g) rfl (bI_le a0.Entries 1000)) ?_
  refine r_u (o_and rfl rfl) ?_
  refine r_u (o_mv rfl) ?_
  refine r_s (s_gt rfl rfl fun g => o_fa fa24_2 rfl) ?_
  refine r_s (s_gt rfl rfl fun g => o_ld 0 sc3 (evg rfl g) rfl rfl) ?_
  refine r_s (s_gt rfl rfl fun g => o_bin (evg rfl g) rfl (bI_ge a0.Bytes 1)) ?_
  refine r_u (o_and rfl rfl) ?_
  refine r_u (o_mv rfl) ?_
  refine r_s (s_gt rfl rfl fun g => o_fa fa24_2 rfl) ?_
  refine r_s (s_gt rfl rfl fun g => o_ld 0 sc3 (evg rfl g) rfl rfl) ?_
  refine r_s (s_gt rfl rfl fun g => o_bin (evg rfl g) rfl (bI_le a0.Bytes 1048576)) ?_
  refine r_u (o_and rfl rfl) ?_
  refine r_u (o_as rfl) ?_
  refine r_nil ?_
  refine x_seq ?_
  refine c_ret ?_
  subst hm
  refine ex_st (fun _ h => st_pk 1 [] (by decide) h) ?_
  exact x_r1 rfl (rv_t rfl) (Le.refl _) ⟨_, rfl, rfl, rfl, rfl⟩

def ring_New_l0 (a0 : Int) : Nat → Int → (List Int) → Option (List Int)
  | 0, _, _ => none
  | k28 + 1, i_25, c_26 => if decide (0 ≤ i_25) then (apd 8 c_26 [i64 (a0 + i_25)]).bind fun l35 => ring_New_l0 a0 k28 (i64 (i_25 - 1)) l35 else some c_26
def ring_New_l1 (a0 : Int) : Nat → Int → (List ring_slot) → Option (List ring_slot)
  | 0, _, _ => none
  | k39 + 1, s_37, c_38 => if decide (s_37 < a0) then (gi c_38 s_37).bind fun x44 => ring_New_l1 a0 k39 (i64 (s_37 + 1)) (ls c_38 s_37 (⟨[], s_37, s_37, s_37⟩ : ring_slot)) else some c_38
def ring_New (a0 : Int) (a1 : Int) : Option (Option ring_Rings × Int) :=
  if (((decide (a0 < 1) || decide (8 < a0)) || decide (a1 < 0)) || decide (4096 < a1)) then some (none, 1) else (mks 8 a0 (0 : Int)).bind fun l11 => (mks 40 (i64 (a0 + a1)) ((⟨[], 0, 0, 0⟩ : ring_slot) : ring_slot)).bind fun l13 => Option.bind (ring_New_l1 a0 ((a0 - 0).toNat + 1) 0 l13) fun p16 => Option.bind (ring_New_l0 a0 (((i64 (a1 - 1)) + 1).toNat + 1) (i64 (a1 - 1)) []) fun p20 => some ((some (⟨a0, p16, p20, [], l11⟩ : ring_Rings)), 0)
theorem ring_New.ok {G R F} (a0 : Int) (a1 : Int) (r : Option ring_Rings × Int) (hm : ring_New a0 a1 = some r) : CO Tryz.prog 128 [vI a0, vI a1] G R (F)
    (Ret fun u R' L' => ∃ (p0 : Value × ring_Rings.G), u = .tuple #[p0.1, vI r.2] ∧ R' = R ∧ L' = rO (ring_Rings.op p0.2) p0.1 r.1 :: F) := by
  unfold ring_New at hm
  refine co_ofN (N := 67) Tryz.func128 rfl rfl ?_
  refine c_seq ?_
  refine c_reg ?_
  refine r_u (o_as rfl) ?_
  refine r_u (o_as rfl) ?_
  refine r_nil ?_
  refine x_seq ?_
  refine c_seq ?_
  refine c_seq ?_
  refine c_reg ?_
  refine r_u (o_mv rfl) ?_
  refine r_u (o_bin rfl rfl (bI_lt a0 1)) ?_
  refine r_u (o_mv rfl) ?_
  refine r_s (s_gf rfl rfl fun g => o_mv rfl) ?_
  refine r_s (s_gf rfl rfl fun g => o_bin (evg rfl g) rfl (bI_gt a0 8)) ?_
  refine r_u (o_or rfl rfl) ?_
  refine r_u (o_mv rfl) ?_
  refine r_s (s_gf rfl rfl fun g => o_mv rfl) ?_
  refine r_s (s_gf rfl rfl fun g => o_bin (evg rfl g) rfl (bI_lt a1 0)) ?_
  refine r_u (o_or rfl rfl) ?_
  refine r_u (o_mv rfl) ?_
  refine r_s (s_gf rfl rfl fun g => o_mv rfl) ?_
  refine r_s (s_gf rfl rfl fun g => o_bin (evg rfl g) rfl (bI_gt a1 4096)) ?_
  refine r_u (o_or rfl rfl) ?_
  refine r_nil ?_
  refine x_seq ?_
  refine c_if (b := (((decide (a0 < 1) || decide (8 < a0)) || decide (a1 < 0)) || decide (4096 < a1))) rfl (fun h0 => ?_) fun h0 => ?_
  · have hm1 := ift hm h0
    clear hm
    refine c_seq ?_
    refine c_reg ?_
    refine r_u (o_as rfl) ?_
    refine r_u (o_as rfl) ?_
    refine r_nil ?_
    refine x_seq ?_
    refine c_ret ?_
    refine ex_st (fun _ h => st_none (f := ring_Rings.op default) h) ?_
    obtain rfl := Option.some.inj hm1
    exact x_r2 rfl (rv_t rfl) (rv_t rfl) (Le.refl _) ⟨_, rfl, (nl, default), rfl, rfl, rfl⟩
  · have hm1 := iff_ hm h0
    clear hm
    refine c_skip ?_
    refine x_seq ?_
    refine c_seq ?_
    obtain ⟨l11, hl11, hm12⟩ := bs hm1
    clear hm1
    obtain ⟨l13, hl13, hm14⟩ := bs hm12
    clear hm12
    refine c_anyF mixed (effs := [9]) (fr := [(1, fun u => OwM vS vI u []), (3, fun u => OwS true 3 1 eI u l11), (7, fun u => OwS true 240 4 ring_slot.c u l13)]) (V := []) rfl ?_
    refine stageF_ext [(0, vI a0), (2, vI a0), (4, vI a0), (5, vI a1), (6, vI (i64 (a0 + a1)))] rfl ?_
    refine stageG rfl rfl rfl rfl rfl rfl [0, 0, 0, 4, 0, 0, 48, 112, 255, 511, 1023] [0, 2, 4, 5, 6] [] (by kernel_rfl) (by kernel_rfl) (by kernel_rfl) (by kernel_rfl) (tc rfl rfl (fun A => s_u (o_mv rfl)) (tc rfl rfl (fun A => s_u (o_mv rfl)) (tc rfl rfl (fun A => s_u (o_mv rfl)) (tc rfl rfl (fun A => s_u (o_mv rfl)) (tc rfl rfl (fun A => s_u (o_bin rfl rfl (bI_add a0 a1))) tn))))) (fcons rfl (fun A => s_w (o_mm (kv := vS) (vv := vI))) (fcons rfl (fun A => s_w (o_mk (sz := 1) (bytes := 8) (e := 3) (en := eI) Tryz.underlying234 rfl rfl rfl rfl rfl rfl rfl rfl rfl hl11)) (fcons rfl (fun A => s_w (o_mk (sz := 4) (bytes := 40) (e := 240) (en := ring_slot.c) Tryz.underlying233 rfl rfl rfl rfl rfl rfl rfl rfl rfl hl13)) fnil))) etn fun bt10 => ?_
    refine stage_ext [(8, .agg [vI a0, (bt10 7), .slice none 0 0, (bt10 1), (bt10 3)].toArray)] rfl ?_
    refine stage rfl rfl rfl rfl [0, 0, 0, 4, 0, 0, 48, 112, 255, 511, 1023] [0, 8] [9] (by kernel_rfl) (by kernel_rfl) (by kernel_rfl) (qc rfl rfl (s_u (o_mv rfl)) (qc rfl rfl (s_u (ou_if (hd_m 0 rfl) fun hb0 => ou_if (hd_o 1 rfl) fun hb1 => ou_if (hd_o 2 rfl) fun hb2 => o_bld [vI a0, (bt10 7), .slice none 0 0, (bt10 1), (bt10 3)] rfl (fun _ => by obtain ⟨_, he0⟩ := hb0; rw [he0]; obtain ⟨_, _, he1⟩ := hb1; rw [he1]; obtain ⟨_, _, he2⟩ := hb2; rw [he2]; kernel_rfl))) qn)) ?_ (fun h => absurd (show false = true from h) (by decide))
    refine ec (eo_n rfl (s_w (o_bx [vI a0, (bt10 7), .slice none 0 0, (bt10 1), (bt10 3)] rfl rfl)) fun b15 => ?_) en
    refine stage_ext [(10, pt b15 0)] rfl ?_
    refine stage rfl rfl rfl rfl [0, 0, 0, 4, 0, 0, 48, 112, 255, 511, 1023] [10] [] (by kernel_rfl) (by kernel_rfl) (by kernel_rfl) (qc rfl rfl (s_u (o_as rfl)) qn) en ?_
    intro _
    refine ex_sub (E' := [(0, vI a0), (1, vI a1), (6, pt b15 0)]) ⟨rfl, rfl, rfl, trivial⟩ ?_
    refine x_seq ?_
    refine c_seq ?_
    refine c_seq ?_
    refine c_reg ?_
    refine r_u (o_mv rfl) ?_
    refine r_u (o_mv rfl) ?_
    refine r_nil ?_
    refine x_seq ?_
    obtain ⟨p16, hp17, hm18⟩ := bs hm14
    refine cd_join (E' := [(0, vI a0), (1, vI a1), (6, pt b15 0)]) (L' := Bk b15 237 [vI a0, (bt10 7), .slice none 0 0, (bt10 1), (bt10 3)] :: OwM vS vI (bt10 1) [] :: OwS true 3 1 eI (bt10 3) l11 :: OwS true 240 4 ring_slot.c (bt10 7) p16 :: F) ?_ fun K19 => ?_
    · refine x_seq ?_
      refine c_seq ?_
      refine c_seq ?_
      refine c_reg ?_
      refine r_u (o_mv rfl) ?_
      refine r_u (o_bin rfl rfl (bI_sub a1 1)) ?_
      refine r_u (o_as rfl) ?_
      refine r_nil ?_
      refine x_seq ?_
      obtain ⟨p20, hp22, hm23⟩ := bs hm18
      refine cd_cut (fun x ks => ∀ (g21 : Value), EX x .normal ks [(6, pt b15 0)] R (Bk b15 237 [vI a0, (bt10 7), g21, (bt10 1), (bt10 3)] :: OwM vS vI (bt10 1) [] :: OwS true 3 1 eI (bt10 3) l11 :: OwS true 240 4 ring_slot.c (bt10 7) p16 :: OwS true 3 1 eI g21 p20 :: F)) ?_ fun K24 => ?_
      · intro g21
        refine x_seq ?_
        refine c_seq ?_
        refine c_reg ?_
        refine r_u (o_mv rfl) ?_
        refine r_u (o_as rfl) ?_
        refine r_u (o_as rfl) ?_
        refine r_nil ?_
        refine x_seq ?_
        refine c_ret ?_
        refine ex_st (fun _ h => mv4 (mv4 (mv4 (mv2 (mv2 h))))) ?_
        refine ex_st (fun _ h => st_some (f := ring_Rings.op (⟨(bt10 7), g21, (bt10 1), (bt10 3)⟩ : ring_Rings.G)) (a := (⟨a0, p16, p20, [], l11⟩ : ring_Rings)) (st_star_f (A := ring_Rings.fl b15 (⟨a0, p16, p20, [], l11⟩ : ring_Rings) (⟨(bt10 7), g21, (bt10 1), (bt10 3)⟩ : ring_Rings.G)) h)) ?_
        obtain rfl := Option.some.inj hm23
        exact x_r2 rfl (rv_t rfl) (rv_t rfl) (Le.refl _) ⟨_, rfl, (pt b15 0, (⟨(bt10 7), g21, (bt10 1), (bt10 3)⟩ : ring_Rings.G)), rfl, rfl, rfl⟩
      · refine c_blk ?_
        refine cd_st (fun _ h => st_nil (ap := true) (T := 3) (sz := 1) (en := eI) h) ?_
        refine cd_loopG (M := fun k28 (s : Int × List Int × Value) => ring_New_l0 a0 k28 s.1 s.2.1 = some p20) (Ef := fun (s : Int × List Int × Value) => [(0, vI a0), (6, pt b15 0), (8, vI s.1)]) (Rf := fun (s : Int × List Int × Value) => R) (Lf := fun (s : Int × List Int × Value) => Bk b15 237 [vI a0, (bt10 7), s.2.2, (bt10 1), (bt10 3)] :: OwM vS vI (bt10 1) [] :: OwS true 3 1 eI (bt10 3) l11 :: OwS true 240 4 ring_slot.c (bt10 7) p16 :: OwS true 3 1 eI s.2.2 s.2.1 :: F) (((i64 (a1 - 1)) + 1).toNat + 1) (i64 (a1 - 1), [], .slice none 0 0) hp22 ⟨rfl, rfl, rfl, trivial⟩ (fun _ h => st_pk 5 [1, 2, 3, 4, 0] (by decide) h) (fun _ h => by cases h) fun k28 s hM30 => ?_
        obtain ⟨i_25, c_26, g27⟩ := s
        have hm29 : ring_New_l0 a0 (k28 + 1) i_25 c_26 = some p20 := hM30
        rw [ring_New_l0] at hm29
        refine c_seq ?_
        refine c_seq ?_
        refine c_reg ?_
        refine r_u (o_mv rfl) ?_
        refine r_u (o_bin rfl rfl (bI_ge i_25 0)) ?_
        refine r_nil ?_
        refine x_seq ?_
        refine c_if (b := decide (0 ≤ i_25)) rfl (fun h31 => ?_) fun h31 => ?_
        · have hm32 := ift hm29 h31
          clear hm29
          refine c_skip ?_
          refine x_seq ?_
          refine c_seq ?_
          refine c_blk ?_
          refine c_reg ?_
          refine r_u (o_mv rfl) ?_
          refine r_u (o_mv rfl) ?_
          refine r_u (o_nc rfl) ?_
          refine r_u (o_fa fa237_2 rfl) ?_
          refine r_u (o_ld 0 sc234 rfl rfl rfl) ?_
          refine r_u (o_mv rfl) ?_
          refine r_u (o_mv rfl) ?_
          refine r_u (o_bin rfl rfl (bI_add a0 i_25)) ?_
          refine r_sw (s_w (o_bsl (en := eI) (sz := 1) (e := 3) (cs := [vI (i64 (a0 + i_25))]) (r := [i64 (a0 + i_25)]) rfl (fun _ => by kernel_rfl) rfl (by decide) rfl (fun _ => rfl))) ?_
          rintro v33 R _ _ ⟨rfl, rfl⟩
          obtain ⟨l35, hl35, hm36⟩ := bs hm32
          clear hm32
          refine rl_st (fun _ h => mv5 h) ?_
          refine r_sw (s_w (o_ap (sz := 1) (bytes := 8) 0 Tryz.underlying234 rfl rfl rfl rfl rfl (by decide) (by decide) (fun _ _ _ h => by simp at h; subst h; rfl) (fun _ => rfl) rfl rfl rfl rfl (Nat.succ_pos _) hl35)) ?_
          rintro v34 R _ _ ⟨rfl, rfl⟩
          refine r_u (o_nc rfl) ?_
          refine r_u (o_fa fa237_2 rfl) ?_
          refine rl_st (fun _ h => mv2 h) ?_
          refine r_u0 (ou_if (one_o 1 rfl) fun ho0 => o_st sc234 rfl rfl rfl ho0 rfl rfl) ?_
          refine r_nil ?_
          refine x_blk ?_
          refine x_seq ?_
          refine c_reg ?_
          refine r_u (o_mv rfl) ?_
          refine r_u (o_bin rfl rfl (bI_sub i_25 1)) ?_
          refine r_u (o_as rfl) ?_
          refine r_nil ?_
          exact x_lp (i64 (i_25 - 1), l35, v34) hm36 ⟨rfl, rfl, rfl, trivial⟩ (fun _ h => st_pk 6 [0, 3, 4, 5, 1] (by decide) h)
        · have hm32 := iff_ hm29 h31
          clear hm29
          refine c_exit (x_exit (ks' := _) rfl ?_)
          obtain rfl := Option.some.inj hm32
          exact x_sub (K24 g27) ⟨rfl, trivial⟩ (fun _ h => st_pk 5 [0, 1, 2, 3, 4] (by decide) h)
    · refine c_blk ?_
      refine cd_loop (M := fun k39 (s : Int × List ring_slot) => ring_New_l1 a0 k39 s.1 s.2 = some p16) (Ef := fun (s : Int × List ring_slot) => [(0, vI a0), (1, vI a1), (6, pt b15 0), (33, vI a0), (34, vI s.1)]) (Lf := fun (s : Int × List ring_slot) => Bk b15 237 [vI a0, (bt10 7), .slice none 0 0, (bt10 1), (bt10 3)] :: OwM vS vI (bt10 1) [] :: OwS true 3 1 eI (bt10 3) l11 :: OwS true 240 4 ring_slot.c (bt10 7) s.2 :: F) ((a0 - 0).toNat + 1) (0, l13) hp17 ⟨rfl, rfl, rfl, rfl, rfl, trivial⟩ (fun _ h => h) (fun _ h => by cases h) fun k39 s hM41 => ?_
      obtain ⟨s_37, c_38⟩ := s
      have hm40 : ring_New_l1 a0 (k39 + 1) s_37 c_38 = some p16 := hM41
      rw [ring_New_l1] at hm40
      refine c_seq ?_
      refine c_reg ?_
      refine r_u (o_bin rfl rfl (bI_lt s_37 a0)) ?_
      refine r_nil ?_
      refine x_seq ?_
      refine c_seq ?_
      refine c_if (b := decide (s_37 < a0)) rfl (fun h42 => ?_) fun h42 => ?_
      · have hm43 := ift hm40 h42
        clear hm40
        refine c_skip ?_
        refine x_seq ?_
        refine c_seq ?_
        refine c_blk ?_
        refine c_seq ?_
        refine c_reg ?_
        refine r_u (o_mv rfl) ?_
        refine r_u (o_as rfl) ?_
        refine r_nil ?_
        refine x_seq ?_
        refine c_reg ?_
        refine r_u (o_mv rfl) ?_
        refine r_u (o_nc rfl) ?_
        refine r_u (o_fa fa237_1 rfl) ?_
        refine r_u (o_ld 0 sc233 rfl rfl rfl) ?_
        refine r_u (o_mv rfl) ?_
        refine r_u (o_mv rfl) ?_
        refine r_u (o_mv rfl) ?_
        refine r_u (o_mv rfl) ?_
        refine r_u (o_bld [vS [], vI s_37, vI s_37, vI s_37] rfl (fun _ => by kernel_rfl)) ?_
        obtain ⟨x44, hx44, hm45⟩ := bs hm43
        clear hm43
        refine r_u (o_ixO 3 Tryz.underlying233 (fun _ => by kernel_rfl) rfl rfl rfl hx44) ?_
        refine rl_st (fun _ h => mv3 h) ?_
        refine r_u0 (o_stnO (c' := (⟨[], s_37, s_37, s_37⟩ : ring_slot)) ag240 rfl rfl rfl hx44 rfl rfl rfl) ?_
        refine r_nil ?_
        refine x_blk ?_
        refine x_seq ?_
        refine c_reg ?_
        refine r_u (o_bin rfl rfl (bI_add s_37 1)) ?_
        refine r_u (o_mv rfl) ?_
        refine r_nil ?_
        exact x_lp (i64 (s_37 + 1), ls c_38 s_37 (⟨[], s_37, s_37, s_37⟩ : ring_slot)) hm45 ⟨rfl, rfl, rfl, rfl, rfl, trivial⟩ (fun _ h => st_pk 4 [1, 2, 3, 0] (by decide) h)
      · have hm43 := iff_ hm40 h42
        clear hm40
        refine c_exit (x_exit (ks' := _) rfl ?_)
        obtain rfl := Option.some.inj hm43
        exact x_sub K19 ⟨rfl, rfl, rfl, trivial⟩ (fun _ h => st_pk 4 [0, 1, 2, 3] (by decide) h)

def arc_New (a0 : Int) : Option (Option arc_Arc × Int) :=
  if (decide (a0 < 1) || decide (1000 < a0)) then some (none, 1) else (ring_New 4 (i64 ((i64 (2 * a0)) + 1))).bind fun r2 => some ((some (⟨a0, 0, r2.1⟩ : arc_Arc)), r2.2)
theorem arc_New.ok {G R F} (a0 : Int) (r : Option arc_Arc × Int) (hm : arc_New a0 = some r) : CO Tryz.prog 75 [vI a0] G R (F)
    (Ret fun u R' L' => ∃ (p0 : Value × arc_Arc.G), u = .tuple #[p0.1, vI r.2] ∧ R' = R ∧ L' = rO (arc_Arc.op p0.2) p0.1 r.1 :: F) := by
  unfold arc_New at hm
  refine co_ofN (N := 24) Tryz.func75 rfl rfl ?_
  refine c_seq ?_
  refine c_reg ?_
  refine r_u (o_as rfl) ?_
  refine r_u (o_as rfl) ?_
  refine r_nil ?_
  refine x_seq ?_
  refine c_seq ?_
  refine c_seq ?_
  refine c_reg ?_
  refine r_u (o_mv rfl) ?_
  refine r_u (o_bin rfl rfl (bI_lt a0 1)) ?_
  refine r_u (o_mv rfl) ?_
  refine r_s (s_gf rfl rfl fun g => o_mv rfl) ?_
  refine r_s (s_gf rfl rfl fun g => o_bin (evg rfl g) rfl (bI_gt a0 1000)) ?_
  refine r_u (o_or rfl rfl) ?_
  refine r_nil ?_
  refine x_seq ?_
  refine c_if (b := (decide (a0 < 1) || decide (1000 < a0))) rfl (fun h0 => ?_) fun h0 => ?_
  · have hm1 := ift hm h0
    clear hm
    refine c_seq ?_
    refine c_reg ?_
    refine r_u (o_as rfl) ?_
    refine r_u (o_as rfl) ?_
    refine r_nil ?_
    refine x_seq ?_
    refine c_ret ?_
    refine ex_st (fun _ h => st_none (f := arc_Arc.op default) h) ?_
    obtain rfl := Option.some.inj hm1
    exact x_r2 rfl (rv_t rfl) (rv_t rfl) (Le.refl _) ⟨_, rfl, (nl, default), rfl, rfl, rfl⟩
  · have hm1 := iff_ hm h0
    clear hm
    refine c_skip ?_
    refine x_seq ?_
    refine c_seq ?_
    refine c_reg ?_
    refine r_u (o_mv rfl) ?_
    refine r_u (o_bin rfl rfl (bI_mul 2 a0)) ?_
    refine r_u (o_bin rfl rfl (bI_add (i64 (2 * a0)) 1)) ?_
    obtain ⟨r2, hr2, hm6⟩ := bs hm1
    clear hm1
    refine r_sw (s_w (o_call ca128 rfl (ring_New.ok 4 (i64 ((i64 (2 * a0)) + 1)) r2 hr2))) ?_
    rintro _ R _ _ ⟨⟨pv4, g5⟩, rfl, rfl, rfl⟩
    refine r_u (o_mv rfl) ?_
    refine r_u (o_ext rfl rfl) ?_
    refine r_u (o_ext rfl rfl) ?_
    refine r_u (o_as rfl) ?_
    refine r_u (o_as rfl) ?_
    refine r_nil ?_
    refine x_seq ?_
    refine c_seq ?_
    refine c_reg ?_
    refine r_u (o_mv rfl) ?_
    refine r_u (o_mv rfl) ?_
    refine r_u (ou_if (hd_p 0 rfl) fun hb0 => o_bld [vI a0, vI 0, pv4] rfl (fun _ => by obtain ⟨_, rfl⟩ := hb0; kernel_rfl)) ?_
    refine r_new (o_bx [vI a0, vI 0, pv4] rfl rfl) fun b7 => ?_
    refine r_u (o_mv rfl) ?_
    refine r_u (o_as rfl) ?_
    refine r_u (o_as rfl) ?_
    refine r_nil ?_
    refine x_seq ?_
    refine c_ret ?_
    refine ex_st (fun _ h => st_some (f := arc_Arc.op (⟨(pv4, g5)⟩ : arc_Arc.G)) (a := (⟨a0, 0, r2.1⟩ : arc_Arc)) (st_star_f (A := arc_Arc.fl b7 (⟨a0, 0, r2.1⟩ : arc_Arc) (⟨(pv4, g5)⟩ : arc_Arc.G)) h)) ?_
    obtain rfl := Option.some.inj hm6
    exact x_r2 rfl (rv_t rfl) (rv_t rfl) (Le.refl _) ⟨_, rfl, (pt b7 0, (⟨(pv4, g5)⟩ : arc_Arc.G)), rfl, rfl, rfl⟩

def tiny_wide (a0 : Int) : Int :=
  (if 4096 < (i64 (8 * a0)) then 4096 else i64 (8 * a0))
theorem tiny_wide.ok {G R F} (a0 : Int) (r : Int) (hm : tiny_wide a0 = r) : CO Tryz.prog 130 [vI a0] G R (F)
    (Ret fun u R' L' => u = vI r ∧ R' = R ∧ L' = F) := by
  unfold tiny_wide at hm
  refine co_ofN (N := 6) Tryz.func130 rfl rfl ?_
  refine c_seq ?_
  refine c_reg ?_
  refine r_u (o_as rfl) ?_
  refine r_nil ?_
  refine x_seq ?_
  refine c_seq ?_
  refine c_reg ?_
  refine r_u (o_mv rfl) ?_
  refine r_u (o_bin rfl rfl (bI_mul 8 a0)) ?_
  refine r_u (o_minI rfl rfl) ?_
  refine r_u (o_as rfl) ?_
  refine r_nil ?_
  refine x_seq ?_
  refine c_ret ?_
  subst hm
  exact x_r1 rfl (rv_t rfl) (Le.refl _) ⟨_, rfl, rfl, rfl, rfl⟩

def sketch_New_l0 (a0 : Int) : Nat → Int → (List (List UInt8)) → Option (List (List UInt8))
  | 0, _, _ => none
  | k14 + 1, s_11, c_12 => if decide (s_11 < 4) then (mks 1 a0 (0 : UInt8)).bind fun l20 => (gi c_12 s_11).bind fun y22 => sketch_New_l0 a0 k14 (i64 (s_11 + 1)) (ls c_12 s_11 l20) else some c_12
def sketch_New (a0 : Int) (a1 : UInt64) : Option (Option sketch_Sketch × Int) :=
  if (decide (a0 < 1) || decide (4096 < a0)) then some (none, 1) else (mks 1 a0 (false : Bool)).bind fun l3 => Option.bind (sketch_New_l0 a0 5 0 [[], [], [], []]) fun p6 => some ((some (⟨a0, a1, p6, l3, 0⟩ : sketch_Sketch)), 0)
theorem sketch_New.ok {G R F} (a0 : Int) (a1 : UInt64) (r : Option sketch_Sketch × Int) (hm : sketch_New a0 a1 = some r) : CO Tryz.prog 129 [vI a0, vW a1] G R (F)
    (Ret fun u R' L' => ∃ (p0 : Value × sketch_Sketch.G), u = .tuple #[p0.1, vI r.2] ∧ R' = R ∧ L' = rO (sketch_Sketch.op p0.2) p0.1 r.1 :: F) := by
  unfold sketch_New at hm
  refine co_ofN (N := 32) Tryz.func129 rfl rfl ?_
  refine c_seq ?_
  refine c_reg ?_
  refine r_u (o_as rfl) ?_
  refine r_u (o_as rfl) ?_
  refine r_nil ?_
  refine x_seq ?_
  refine c_seq ?_
  refine c_seq ?_
  refine c_reg ?_
  refine r_u (o_mv rfl) ?_
  refine r_u (o_bin rfl rfl (bI_lt a0 1)) ?_
  refine r_u (o_mv rfl) ?_
  refine r_s (s_gf rfl rfl fun g => o_mv rfl) ?_
  refine r_s (s_gf rfl rfl fun g => o_bin (evg rfl g) rfl (bI_gt a0 4096)) ?_
  refine r_u (o_or rfl rfl) ?_
  refine r_nil ?_
  refine x_seq ?_
  refine c_if (b := (decide (a0 < 1) || decide (4096 < a0))) rfl (fun h0 => ?_) fun h0 => ?_
  · have hm1 := ift hm h0
    clear hm
    refine c_seq ?_
    refine c_reg ?_
    refine r_u (o_as rfl) ?_
    refine r_u (o_as rfl) ?_
    refine r_nil ?_
    refine x_seq ?_
    refine c_ret ?_
    refine ex_st (fun _ h => st_none (f := sketch_Sketch.op default) h) ?_
    obtain rfl := Option.some.inj hm1
    exact x_r2 rfl (rv_t rfl) (rv_t rfl) (Le.refl _) ⟨_, rfl, (nl, default), rfl, rfl, rfl⟩
  · have hm1 := iff_ hm h0
    clear hm
    refine c_skip ?_
    refine x_seq ?_
    refine c_seq ?_
    refine c_reg ?_
    refine r_u (o_mv rfl) ?_
    refine r_u (o_mv rfl) ?_
    refine r_u (o_mv rfl) ?_
    obtain ⟨l3, hl3, hm4⟩ := bs hm1
    clear hm1
    refine r_sw (s_w (o_mk (sz := 1) (bytes := 1) (e := 4) (en := eB) Tryz.underlying68 rfl rfl rfl rfl rfl rfl rfl rfl rfl hl3)) ?_
    rintro v2 R _ _ ⟨rfl, rfl⟩
    refine r_u (ou_if (hd_o 0 rfl) fun hb0 => o_bld [vI a0, vW a1, .slice none 0 0, .slice none 0 0, .slice none 0 0, .slice none 0 0, v2, vI 0] rfl (fun _ => by obtain ⟨_, _, rfl⟩ := hb0; kernel_rfl)) ?_
    refine r_new (o_bx [vI a0, vW a1, .slice none 0 0, .slice none 0 0, .slice none 0 0, .slice none 0 0, v2, vI 0] rfl rfl) fun b5 => ?_
    refine r_u (o_as rfl) ?_
    refine r_nil ?_
    refine x_seq ?_
    refine c_seq ?_
    refine c_seq ?_
    refine c_reg ?_
    refine r_u (o_mv rfl) ?_
    refine r_nil ?_
    refine x_seq ?_
    obtain ⟨p6, hp8, hm9⟩ := bs hm4
    refine cd_cut (fun x ks => ∀ (g7 : Value × Value × Value × Value), EX x .normal ks [(6, pt b5 0)] R (Bk b5 250 [vI a0, vW a1, g7.1, g7.2.1, g7.2.2.1, g7.2.2.2, v2, vI 0] :: OwS true 4 1 eB v2 l3 :: OwL (OwS false 5 1 eY) [g7.1, g7.2.1, g7.2.2.1, g7.2.2.2] p6 :: F)) ?_ fun K10 => ?_
    · intro g7
      refine x_seq ?_
      refine c_seq ?_
      refine c_reg ?_
      refine r_u (o_mv rfl) ?_
      refine r_u (o_as rfl) ?_
      refine r_u (o_as rfl) ?_
      refine r_nil ?_
      refine x_seq ?_
      refine c_ret ?_
      refine ex_st (fun _ h => mv2 (mv2 (mv1 h))) ?_
      refine ex_st (fun _ h => st_some (f := sketch_Sketch.op (⟨g7, v2⟩ : sketch_Sketch.G)) (a := (⟨a0, a1, p6, l3, 0⟩ : sketch_Sketch)) (st_star_f (A := sketch_Sketch.fl b5 (⟨a0, a1, p6, l3, 0⟩ : sketch_Sketch) (⟨g7, v2⟩ : sketch_Sketch.G)) h)) ?_
      obtain rfl := Option.some.inj hm9
      exact x_r2 rfl (rv_t rfl) (rv_t rfl) (Le.refl _) ⟨_, rfl, (pt b5 0, (⟨g7, v2⟩ : sketch_Sketch.G)), rfl, rfl, rfl⟩
    · refine c_blk ?_
      refine cd_st (fun _ h => st_lnil4 (own := OwS false 5 1 eY) (fun _ => OwS.nil) h) ?_
      refine cd_loopG (M := fun k14 (s : Int × List (List UInt8) × (Value × Value × Value × Value)) => sketch_New_l0 a0 k14 s.1 s.2.1 = some p6) (Ef := fun (s : Int × List (List UInt8) × (Value × Value × Value × Value)) => [(0, vI a0), (6, pt b5 0), (20, vI s.1)]) (Rf := fun (s : Int × List (List UInt8) × (Value × Value × Value × Value)) => R) (Lf := fun (s : Int × List (List UInt8) × (Value × Value × Value × Value)) => Bk b5 250 [vI a0, vW a1, s.2.2.1, s.2.2.2.1, s.2.2.2.2.1, s.2.2.2.2.2, v2, vI 0] :: OwS true 4 1 eB v2 l3 :: OwL (OwS false 5 1 eY) [s.2.2.1, s.2.2.2.1, s.2.2.2.2.1, s.2.2.2.2.2] s.2.1 :: F) 5 (0, [[], [], [], []], (.slice none 0 0, .slice none 0 0, .slice none 0 0, .slice none 0 0)) hp8 ⟨rfl, rfl, rfl, trivial⟩ (fun _ h => st_pk 3 [1, 2, 0] (by decide) h) (fun _ h => by cases h) fun k14 s hM16 => ?_
      obtain ⟨s_11, c_12, g13⟩ := s
      have hm15 : sketch_New_l0 a0 (k14 + 1) s_11 c_12 = some p6 := hM16
      rw [sketch_New_l0] at hm15
      refine c_seq ?_
      refine c_reg ?_
      refine r_u (o_bin rfl rfl (bI_lt s_11 4)) ?_
      refine r_nil ?_
      refine x_seq ?_
      refine c_seq ?_
      refine c_if (b := decide (s_11 < 4)) rfl (fun h17 => ?_) fun h17 => ?_
      · have hm18 := ift hm15 h17
        clear hm15
        refine c_skip ?_
        refine x_seq ?_
        refine c_seq ?_
        refine c_blk ?_
        refine c_seq ?_
        refine c_reg ?_
        refine r_u (o_mv rfl) ?_
        refine r_u (o_as rfl) ?_
        refine r_nil ?_
        refine x_seq ?_
        obtain ⟨l20, hl20, hm21⟩ := bs hm18
        clear hm18
        obtain ⟨y22, hy22, hm24⟩ := bs hm21
        clear hm21
        refine cd_ex (fun w h => st_peek 2 hy22 rfl w h) fun u23 hu23 => ?_
        refine c_any mixed (effs := [3, 7]) (V := []) ?_
        refine stage_ext [(0, pt b5 0), (1, vI s_11), (2, vI a0), (4, pt b5 0), (5, pt b5 2)] rfl ?_
        refine stage rfl rfl rfl rfl [0, 0, 0, 4, 1, 17, 63, 127] [0, 1, 2, 4, 5] [3] rfl rfl rfl (qc rfl rfl (s_u (o_mv rfl)) (qc rfl rfl (s_u (o_mv rfl)) (qc rfl rfl (s_u (o_mv rfl)) (qc rfl rfl (s_u (o_nc rfl)) (qc rfl rfl (s_u (o_fa fa250_2 rfl)) qn))))) ?_ (fun h => absurd h (by decide))
        refine ec (eo_w rfl (s_w (o_mk (sz := 1) (bytes := 1) (e := 5) (en := eY) Tryz.underlying131 rfl rfl rfl rfl rfl rfl rfl rfl rfl hl20)) ?_) en
        rintro v19 R _ _ ⟨rfl, rfl⟩
        refine stage_st (fun _ h => st_weak h) ?_
        refine stage_st (fun _ h => mv2 (mv3 h)) ?_
        refine stage_ext [(6, pt b5 (2 + s_11.toNat * 1))] rfl ?_
        refine stage rfl rfl rfl rfl [0, 0, 0, 4, 1, 17, 63, 127] [0, 1, 4, 5, 6] [7] rfl rfl rfl (qc rfl rfl (s_u (o_mv rfl)) (qc rfl rfl (s_u (o_mv rfl)) (qc rfl rfl (s_u (o_nc rfl)) (qc rfl rfl (s_u (o_fa fa250_2 rfl)) (qc rfl rfl (s_u (o_ixA (sz := 1) Tryz.underlying248 (fun _ => by kernel_rfl) rfl rfl (gi_some hu23).1)) qn))))) ?_ (fun h => absurd h (by decide))
        refine ec (eo_w rfl (s_w (ow_if (one_o 2 rfl) fun ho => o_stA4 (A := [vI a0, vW a1]) (B := [v2, vI 0]) hy22 hu23 sc131 rfl rfl rfl ho)) ?_) en
        rintro _ R _ _ ⟨p25, p26, p27, p28, rfl, rfl, rfl⟩
        refine stage rfl rfl rfl rfl [0, 0, 0, 4, 1, 17, 63, 127] [] [] rfl rfl rfl qn en ?_
        intro _
        refine ex_sub (E' := [(0, vI a0), (6, pt b5 0), (20, vI s_11)]) ⟨rfl, rfl, rfl, trivial⟩ ?_
        refine x_blk ?_
        refine x_seq ?_
        refine c_reg ?_
        refine r_u (o_bin rfl rfl (bI_add s_11 1)) ?_
        refine r_u (o_mv rfl) ?_
        refine r_nil ?_
        exact x_lp (i64 (s_11 + 1), ls c_12 s_11 l20, (p25, p26, p27, p28)) hm24 ⟨rfl, rfl, rfl, trivial⟩ (fun _ h => st_pk 3 [0, 2, 1] (by decide) h)
      · have hm18 := iff_ hm15 h17
        clear hm15
        refine c_exit (x_exit (ks' := _) rfl ?_)
        obtain rfl := Option.some.inj hm18
        exact x_sub (K10 g13) ⟨rfl, trivial⟩ (fun _ h => st_pk 3 [0, 1, 2] (by decide) h)

def tiny_New (a0 : Int) (a1 : UInt64) : Option (Option tiny_Tiny × Int) :=
  if (decide (a0 < 1) || decide (1000 < a0)) then some (none, 1) else (sketch_New (tiny_wide a0) a1).bind fun r2 => (ring_New 3 (i64 (a0 + 1))).bind fun r7 => some ((some (⟨a0, r2.1, r7.1⟩ : tiny_Tiny)), r7.2)
theorem tiny_New.ok {G R F} (a0 : Int) (a1 : UInt64) (r : Option tiny_Tiny × Int) (hm : tiny_New a0 a1 = some r) : CO Tryz.prog 76 [vI a0, vW a1] G R (F)
    (Ret fun u R' L' => ∃ (p0 : Value × tiny_Tiny.G), u = .tuple #[p0.1, vI r.2] ∧ R' = R ∧ L' = rO (tiny_Tiny.op p0.2) p0.1 r.1 :: F) := by
  unfold tiny_New at hm
  refine co_ofN (N := 35) Tryz.func76 rfl rfl ?_
  refine c_seq ?_
  refine c_reg ?_
  refine r_u (o_as rfl) ?_
  refine r_u (o_as rfl) ?_
  refine r_nil ?_
  refine x_seq ?_
  refine c_seq ?_
  refine c_seq ?_
  refine c_reg ?_
  refine r_u (o_mv rfl) ?_
  refine r_u (o_bin rfl rfl (bI_lt a0 1)) ?_
  refine r_u (o_mv rfl) ?_
  refine r_s (s_gf rfl rfl fun g => o_mv rfl) ?_
  refine r_s (s_gf rfl rfl fun g => o_bin (evg rfl g) rfl (bI_gt a0 1000)) ?_
  refine r_u (o_or rfl rfl) ?_
  refine r_nil ?_
  refine x_seq ?_
  refine c_if (b := (decide (a0 < 1) || decide (1000 < a0))) rfl (fun h0 => ?_) fun h0 => ?_
  · have hm1 := ift hm h0
    clear hm
    refine c_seq ?_
    refine c_reg ?_
    refine r_u (o_as rfl) ?_
    refine r_u (o_as rfl) ?_
    refine r_nil ?_
    refine x_seq ?_
    refine c_ret ?_
    refine ex_st (fun _ h => st_none (f := tiny_Tiny.op default) h) ?_
    obtain rfl := Option.some.inj hm1
    exact x_r2 rfl (rv_t rfl) (rv_t rfl) (Le.refl _) ⟨_, rfl, (nl, default), rfl, rfl, rfl⟩
  · have hm1 := iff_ hm h0
    clear hm
    refine c_skip ?_
    refine x_seq ?_
    refine c_seq ?_
    refine c_reg ?_
    refine r_u (o_mv rfl) ?_
    refine r_u (o_callq ca130 rfl (tiny_wide.ok a0 _ rfl)) ?_
    refine r_u (o_mv rfl) ?_
    obtain ⟨r2, hr2, hm6⟩ := bs hm1
    clear hm1
    refine r_sw (s_w (o_call ca129 rfl (sketch_New.ok (tiny_wide a0) a1 r2 hr2))) ?_
    rintro _ R _ _ ⟨⟨pv4, g5⟩, rfl, rfl, rfl⟩
    refine r_u (o_mv rfl) ?_
    refine r_u (o_ext rfl rfl) ?_
    refine r_u (o_ext rfl rfl) ?_
    refine r_u (o_as rfl) ?_
    refine r_u (o_as rfl) ?_
    refine r_nil ?_
    refine x_seq ?_
    refine c_seq ?_
    refine c_reg ?_
    refine r_u (o_mv rfl) ?_
    refine r_u (o_bin rfl rfl (bI_add a0 1)) ?_
    obtain ⟨r7, hr7, hm11⟩ := bs hm6
    clear hm6
    refine r_sw (s_w (o_call ca128 rfl (ring_New.ok 3 (i64 (a0 + 1)) r7 hr7))) ?_
    rintro _ R _ _ ⟨⟨pv9, g10⟩, rfl, rfl, rfl⟩
    refine r_u (o_mv rfl) ?_
    refine r_u (o_ext rfl rfl) ?_
    refine r_u (o_ext rfl rfl) ?_
    refine r_u (o_as rfl) ?_
    refine r_u (o_as rfl) ?_
    refine r_nil ?_
    refine x_seq ?_
    refine c_seq ?_
    refine c_reg ?_
    refine r_u (o_mv rfl) ?_
    refine r_u (o_mv rfl) ?_
    refine r_u (o_mv rfl) ?_
    refine r_u (ou_if (hd_p 1 rfl) fun hb0 => ou_if (hd_p 0 rfl) fun hb1 => o_bld [vI a0, pv4, pv9] rfl (fun _ => by obtain ⟨_, rfl⟩ := hb0; obtain ⟨_, rfl⟩ := hb1; kernel_rfl)) ?_
    refine r_new (o_bx [vI a0, pv4, pv9] rfl rfl) fun b12 => ?_
    refine r_u (o_mv rfl) ?_
    refine r_u (o_as rfl) ?_
    refine r_u (o_as rfl) ?_
    refine r_nil ?_
    refine x_seq ?_
    refine c_ret ?_
    refine ex_st (fun _ h => mv2 (mv2 (mv1 h))) ?_
    refine ex_st (fun _ h => st_some (f := tiny_Tiny.op (⟨(pv4, g5), (pv9, g10)⟩ : tiny_Tiny.G)) (a := (⟨a0, r2.1, r7.1⟩ : tiny_Tiny)) (st_star_f (A := tiny_Tiny.fl b12 (⟨a0, r2.1, r7.1⟩ : tiny_Tiny) (⟨(pv4, g5), (pv9, g10)⟩ : tiny_Tiny.G)) h)) ?_
    obtain rfl := Option.some.inj hm11
    exact x_r2 rfl (rv_t rfl) (rv_t rfl) (Le.refl _) ⟨_, rfl, (pt b12 0, (⟨(pv4, g5), (pv9, g10)⟩ : tiny_Tiny.G)), rfl, rfl, rfl⟩

def policy_New (a0 : Int) (a1 : Int) (a2 : UInt64) : Option (Option policy_Policy × Int) :=
  Option.bind (if (a0 == 1) then (arc_New a1).bind fun r15 => some (r15.2, r15.1, none) else Option.bind (if (a0 == 2) then (tiny_New a1 a2).bind fun r29 => some (r29.2, r29.1) else some (1, none)) fun p20 => some (p20.1, none, p20.2)) fun p1 => if (p1.1 != 0) then some (none, p1.1) else some ((some (⟨a0, p1.2.1, p1.2.2⟩ : policy_Policy)), 0)
theorem policy_New.ok {G R F} (a0 : Int) (a1 : Int) (a2 : UInt64) (r : Option policy_Policy × Int) (hm : policy_New a0 a1 a2 = some r) : CO Tryz.prog 41 [vI a0, vI a1, vW a2] G R (F)
    (Ret fun u R' L' => ∃ (p0 : Value × policy_Policy.G), u = .tuple #[p0.1, vI r.2] ∧ R' = R ∧ L' = rO (policy_Policy.op p0.2) p0.1 r.1 :: F) := by
  unfold policy_New at hm
  refine co_ofN (N := 39) Tryz.func41 rfl rfl ?_
  refine c_seq ?_
  refine c_reg ?_
  refine r_u (o_as rfl) ?_
  refine r_u (o_as rfl) ?_
  refine r_nil ?_
  refine x_seq ?_
  refine c_seq ?_
  refine c_reg ?_
  refine r_u (o_mv rfl) ?_
  refine r_u (o_bld [vI a0, nl, nl] rfl (fun _ => by kernel_rfl)) ?_
  refine r_new (o_bx [vI a0, nl, nl] rfl rfl) fun b0 => ?_
  refine r_u (o_as rfl) ?_
  refine r_u (o_as rfl) ?_
  refine r_nil ?_
  refine x_seq ?_
  refine c_seq ?_
  refine c_seq ?_
  refine c_reg ?_
  refine r_u (o_mv rfl) ?_
  refine r_nil ?_
  refine x_seq ?_
  refine c_blk ?_
  refine c_seq ?_
  refine c_reg ?_
  refine r_u (o_bin rfl rfl (bI_eq a0 1)) ?_
  refine r_u (o_as rfl) ?_
  refine r_nil ?_
  refine x_seq ?_
  obtain ⟨p1, hp8, hm9⟩ := bs hm
  refine cd_cut (fun x ks => ∀ (pv2 : Value × arc_Arc.G), ∀ (pv5 : Value × tiny_Tiny.G), EX x .normal ks [(8, pt b0 0), (9, vI p1.1)] R (Bk b0 144 [vI a0, pv2.1, pv5.1] :: rO (arc_Arc.op pv2.2) pv2.1 p1.2.1 :: rO (tiny_Tiny.op pv5.2) pv5.1 p1.2.2 :: F)) ?_ fun K10 => ?_
  · intro pv2 pv5
    obtain ⟨pv3, g4⟩ := pv2
    obtain ⟨pv6, g7⟩ := pv5
    refine x_blk ?_
    refine x_seq ?_
    refine c_seq ?_
    refine c_seq ?_
    refine c_reg ?_
    refine r_u (o_mv rfl) ?_
    refine r_u (o_bin rfl rfl (bI_ne p1.1 0)) ?_
    refine r_nil ?_
    refine x_seq ?_
    refine c_if (b := (p1.1 != 0)) rfl (fun h11 => ?_) fun h11 => ?_
    · have hm12 := ift hm9 h11
      clear hm9
      refine c_seq ?_
      refine c_reg ?_
      refine r_u (o_mv rfl) ?_
      refine r_u (o_as rfl) ?_
      refine r_u (o_as rfl) ?_
      refine r_nil ?_
      refine x_seq ?_
      refine c_ret ?_
      refine ex_st (fun _ h => st_none (f := policy_Policy.op default) h) ?_
      obtain rfl := Option.some.inj hm12
      refine ex_st (fun _ h => st_pk 4 [0] (by decide) h) ?_
      exact x_r2 rfl (rv_t rfl) (rv_t rfl) (Le.refl _) ⟨_, rfl, (nl, default), rfl, rfl, rfl⟩
    · have hm12 := iff_ hm9 h11
      clear hm9
      refine c_skip ?_
      refine x_seq ?_
      refine c_seq ?_
      refine c_reg ?_
      refine r_u (o_mv rfl) ?_
      refine r_u (o_as rfl) ?_
      refine r_u (o_as rfl) ?_
      refine r_nil ?_
      refine x_seq ?_
      refine c_ret ?_
      refine ex_st (fun _ h => st_some (f := policy_Policy.op (⟨(pv3, g4), (pv6, g7)⟩ : policy_Policy.G)) (a := (⟨a0, p1.2.1, p1.2.2⟩ : policy_Policy)) (st_star_f (A := policy_Policy.fl b0 (⟨a0, p1.2.1, p1.2.2⟩ : policy_Policy) (⟨(pv3, g4), (pv6, g7)⟩ : policy_Policy.G)) h)) ?_
      obtain rfl := Option.some.inj hm12
      exact x_r2 rfl (rv_t rfl) (rv_t rfl) (Le.refl _) ⟨_, rfl, (pt b0 0, (⟨(pv3, g4), (pv6, g7)⟩ : policy_Policy.G)), rfl, rfl, rfl⟩
  · refine c_if (b := (a0 == 1)) rfl (fun h13 => ?_) fun h13 => ?_
    · have hm14 := ift hp8 h13
      clear hp8
      refine c_reg ?_
      refine r_u (o_mv rfl) ?_
      refine r_u (o_mv rfl) ?_
      obtain ⟨r15, hr15, hm19⟩ := bs hm14
      clear hm14
      refine r_sw (s_w (o_call ca75 rfl (arc_New.ok a1 r15 hr15))) ?_
      rintro _ R _ _ ⟨⟨pv17, g18⟩, rfl, rfl, rfl⟩
      refine r_u (o_mv rfl) ?_
      refine r_u (o_ext rfl rfl) ?_
      refine r_u (o_ext rfl rfl) ?_
      refine r_u (o_nc rfl) ?_
      refine r_u (o_fa fa144_1 rfl) ?_
      refine rl_st (fun _ h => mv1 h) ?_
      refine r_u0 (ou_if (one_p 1 rfl) fun ho0 => o_st sc141 rfl rfl rfl ho0 rfl rfl) ?_
      refine r_u (o_as rfl) ?_
      refine r_nil ?_
      refine ex_st (fun _ h => st_none (f := tiny_Tiny.op default) h) ?_
      obtain rfl := Option.some.inj hm19
      exact x_sub (K10 (pv17, g18) (nl, default)) ⟨rfl, rfl, trivial⟩ (fun _ h => st_pk 3 [1, 2, 0] (by decide) h)
    · have hm14 := iff_ hp8 h13
      clear hp8
      refine c_seq ?_
      refine c_reg ?_
      refine r_u (o_bin rfl rfl (bI_eq a0 2)) ?_
      refine r_u (o_as rfl) ?_
      refine r_nil ?_
      refine x_seq ?_
      obtain ⟨p20, hp24, hm25⟩ := bs hm14
      refine cd_cut (fun x ks => ∀ (pv21 : Value × tiny_Tiny.G), EX x .normal ks [(8, pt b0 0), (9, vI p20.1)] R (Bk b0 144 [vI a0, nl, pv21.1] :: rO (tiny_Tiny.op pv21.2) pv21.1 p20.2 :: F)) ?_ fun K26 => ?_
      · intro pv21
        obtain ⟨pv22, g23⟩ := pv21
        refine ex_st (fun _ h => st_none (f := arc_Arc.op default) h) ?_
        obtain rfl := Option.some.inj hm25
        exact x_sub (K10 (nl, default) (pv22, g23)) ⟨rfl, rfl, trivial⟩ (fun _ h => st_pk 3 [1, 0, 2] (by decide) h)
      · refine c_if (b := (a0 == 2)) rfl (fun h27 => ?_) fun h27 => ?_
        · have hm28 := ift hp24 h27
          clear hp24
          refine c_reg ?_
          refine r_u (o_mv rfl) ?_
          refine r_u (o_mv rfl) ?_
          refine r_u (o_mv rfl) ?_
          obtain ⟨r29, hr29, hm33⟩ := bs hm28
          clear hm28
          refine r_sw (s_w (o_call ca76 rfl (tiny_New.ok a1 a2 r29 hr29))) ?_
          rintro _ R _ _ ⟨⟨pv31, g32⟩, rfl, rfl, rfl⟩
          refine r_u (o_mv rfl) ?_
          refine r_u (o_ext rfl rfl) ?_
          refine r_u (o_ext rfl rfl) ?_
          refine r_u (o_nc rfl) ?_
          refine r_u (o_fa fa144_2 rfl) ?_
          refine rl_st (fun _ h => mv1 h) ?_
          refine r_u0 (ou_if (one_p 1 rfl) fun ho0 => o_st sc142 rfl rfl rfl ho0 rfl rfl) ?_
          refine r_u (o_as rfl) ?_
          refine r_nil ?_
          obtain rfl := Option.some.inj hm33
          exact x_sub (K26 (pv31, g32)) ⟨rfl, rfl, trivial⟩ (fun _ h => st_pk 2 [0, 1] (by decide) h)
        · have hm28 := iff_ hp24 h27
          clear hp24
          refine c_skip ?_
          refine ex_st (fun _ h => st_none (f := tiny_Tiny.op default) h) ?_
          obtain rfl := Option.some.inj hm28
          exact x_sub (K26 (nl, default)) ⟨rfl, rfl, trivial⟩ (fun _ h => st_pk 2 [1, 0] (by decide) h)

def table_New  : Option table_Table :=
  (some (⟨[], 0⟩ : table_Table))
theorem table_New.ok {G R F} (r : Option table_Table) (hm : table_New = r) : CO Tryz.prog 42 [] G R (F)
    (Ret fun u R' L' => ∃ (p0 : Value × table_Table.G), u = p0.1 ∧ R' = R ∧ L' = rO (table_Table.op p0.2) p0.1 r :: F) := by
  unfold table_New at hm
  refine co_ofN (N := 4) Tryz.func42 rfl rfl ?_
  refine c_seq ?_
  refine c_reg ?_
  refine r_u (o_as rfl) ?_
  refine r_nil ?_
  refine x_seq ?_
  refine c_seq ?_
  refine c_reg ?_
  refine r_sw (s_w (o_mm (kv := vS) (vv := api_Entry.v))) ?_
  rintro v0 R _ _ ⟨rfl, rfl⟩
  refine r_u (ou_if (hd_m 0 rfl) fun hb0 => o_bld [v0, vI 0] rfl (fun _ => by obtain ⟨_, rfl⟩ := hb0; kernel_rfl)) ?_
  refine r_new (o_bx [v0, vI 0] rfl rfl) fun b1 => ?_
  refine r_u (o_as rfl) ?_
  refine r_nil ?_
  refine x_seq ?_
  refine c_ret ?_
  refine ex_st (fun _ h => st_some (f := table_Table.op (⟨v0⟩ : table_Table.G)) (a := (⟨[], 0⟩ : table_Table)) (st_star_f (A := table_Table.fl b1 (⟨[], 0⟩ : table_Table) (⟨v0⟩ : table_Table.G)) h)) ?_
  subst hm
  exact x_r1 rfl (rv_t rfl) (Le.refl _) ⟨_, rfl, (pt b1 0, (⟨v0⟩ : table_Table.G)), rfl, rfl, rfl⟩

def store_New (a0 : api_Config) : Option (Option store_Store × Int) :=
  if !(store_Check a0) then some (none, 1) else (policy_New a0.Policy a0.Entries a0.Seed).bind fun r3 => lt (table_New) fun r8 => some ((some (⟨a0, r8, r3.1, [], 0, 0, 0, (⟨0, 0⟩ : api_Tally)⟩ : store_Store)), r3.2)
theorem store_New.ok {G R F} (a0 : api_Config) (r : Option store_Store × Int) (hm : store_New a0 = some r) : CO Tryz.prog 19 [.agg (api_Config.c a0).toArray] G R (F)
    (Ret fun u R' L' => ∃ (p0 : Value × store_Store.G), u = .tuple #[p0.1, vI r.2] ∧ R' = R ∧ L' = rO (store_Store.op p0.2) p0.1 r.1 :: F) := by
  unfold store_New at hm
  refine co_ofN (N := 26) Tryz.func19 rfl rfl ?_
  refine c_seq ?_
  refine c_reg ?_
  refine r_new (o_bx (api_Config.c a0) rfl rfl) fun b0 => ?_
  refine r_u (o_as rfl) ?_
  refine r_u (o_as rfl) ?_
  refine r_nil ?_
  refine x_seq ?_
  refine c_seq ?_
  refine c_seq ?_
  refine c_reg ?_
  refine r_u (o_ldn 0 (api_Config.c a0) ag24 rfl rfl rfl rfl) ?_
  refine r_u (o_callq ca29 rfl (store_Check.ok a0 _ rfl)) ?_
  refine r_u (o_not rfl) ?_
  refine r_nil ?_
  refine x_seq ?_
  refine c_if (b := !(store_Check a0)) rfl (fun h1 => ?_) fun h1 => ?_
  · have hm2 := ift hm h1
    clear hm
    refine c_seq ?_
    refine c_reg ?_
    refine r_u (o_as rfl) ?_
    refine r_u (o_as rfl) ?_
    refine r_nil ?_
    refine x_seq ?_
    refine c_ret ?_
    refine ex_st (fun _ h => st_none (f := store_Store.op default) h) ?_
    obtain rfl := Option.some.inj hm2
    refine ex_st (fun _ h => st_pk 2 [0] (by decide) h) ?_
    exact x_r2 rfl (rv_t rfl) (rv_t rfl) (Le.refl _) ⟨_, rfl, (nl, default), rfl, rfl, rfl⟩
  · have hm2 := iff_ hm h1
    clear hm
    refine c_skip ?_
    refine x_seq ?_
    refine c_seq ?_
    refine c_reg ?_
    refine r_u (o_fa fa24_0 rfl) ?_
    refine r_u (o_ld 0 sc3 rfl rfl rfl) ?_
    refine r_u (o_fa fa24_1 rfl) ?_
    refine r_u (o_ld 0 sc3 rfl rfl rfl) ?_
    refine r_u (o_fa fa24_3 rfl) ?_
    refine r_u (o_ld 0 sc22 rfl rfl rfl) ?_
    obtain ⟨r3, hr3, hm7⟩ := bs hm2
    clear hm2
    refine r_sw (s_w (o_call ca41 rfl (policy_New.ok a0.Policy a0.Entries a0.Seed r3 hr3))) ?_
    rintro _ R _ _ ⟨⟨pv5, g6⟩, rfl, rfl, rfl⟩
    refine r_u (o_mv rfl) ?_
    refine r_u (o_ext rfl rfl) ?_
    refine r_u (o_ext rfl rfl) ?_
    refine r_u (o_as rfl) ?_
    refine r_u (o_as rfl) ?_
    refine r_nil ?_
    refine x_seq ?_
    refine c_seq ?_
    obtain ⟨r8, hr8, hm12⟩ := ltx hm7
    clear hm7
    refine c_any mixed (effs := [1, 3, 5]) (V := []) ?_
    refine stage_ext [(0, .agg (api_Config.c a0).toArray), (2, pv5), (6, vI r3.2)] rfl ?_
    refine stage rfl rfl rfl rfl [0, 0, 0, 0, 15, 31, 0, 63, 255] [0, 2, 6] [1, 3] rfl rfl rfl (qc rfl rfl (s_u (o_ldn 1 (api_Config.c a0) ag24 rfl rfl rfl rfl)) (qc rfl rfl (s_u (o_mv rfl)) (qc rfl rfl (s_u (o_mv rfl)) qn))) ?_ (fun h => absurd h (by decide))
    refine ec (eo_w rfl (s_w (o_call ca42 rfl (table_New.ok r8 hr8))) ?_) (ec (eo_w rfl (s_w (o_mm (kv := vW) (vv := store_last.v))) ?_) en)
    · rintro pv10 R _ _ ⟨⟨_, g11⟩, rfl, rfl, rfl⟩
      refine stage rfl rfl rfl rfl [0, 0, 0, 0, 15, 31, 0, 63, 255] [0, 2, 6] [3] rfl rfl rfl (qc rfl rfl (s_u (o_ldn 2 (api_Config.c a0) ag24 rfl rfl rfl rfl)) (qc rfl rfl (s_u (o_mv rfl)) (qc rfl rfl (s_u (o_mv rfl)) qn))) ?_ (fun h => absurd h (by decide))
      refine ec (eo_w rfl (s_w (o_mm (kv := vW) (vv := store_last.v))) ?_) en
      rintro v13 R _ _ ⟨rfl, rfl⟩
      refine stage_ext [(4, .agg [vI a0.Policy, vI a0.Entries, vI a0.Bytes, vW a0.Seed, pv10, pv5, v13, vW 0, vW 0, vW 0, vI 0, vI 0].toArray)] rfl ?_
      refine stage rfl rfl rfl rfl [0, 0, 0, 0, 15, 31, 0, 63, 255] [0, 2, 4, 6] [5] rfl rfl rfl (qc rfl rfl (s_u (o_ldn 3 (api_Config.c a0) ag24 rfl rfl rfl rfl)) (qc rfl rfl (s_u (o_mv rfl)) (qc rfl rfl (s_u (ou_if (hd_p 1 rfl) fun hb0 => ou_if (hd_p 2 rfl) fun hb1 => ou_if (hd_m 0 rfl) fun hb2 => o_bld [vI a0.Policy, vI a0.Entries, vI a0.Bytes, vW a0.Seed, pv10, pv5, v13, vW 0, vW 0, vW 0, vI 0, vI 0] rfl (fun _ => by obtain ⟨_, rfl⟩ := hb0; obtain ⟨_, rfl⟩ := hb1; obtain ⟨_, rfl⟩ := hb2; kernel_rfl))) (qc rfl rfl (s_u (o_mv rfl)) qn)))) ?_ (fun h => absurd h (by decide))
      refine ec (eo_n rfl (s_w (o_bx [vI a0.Policy, vI a0.Entries, vI a0.Bytes, vW a0.Seed, pv10, pv5, v13, vW 0, vW 0, vW 0, vI 0, vI 0] rfl rfl)) fun b14 => ?_) en
      refine stage_ext [(7, pt b14 0), (8, vI r3.2)] rfl ?_
      refine stage rfl rfl rfl rfl [0, 0, 0, 0, 15, 31, 0, 63, 255] [6, 7, 8] [] rfl rfl rfl (qc rfl rfl (s_u (o_mv rfl)) (qc rfl rfl (s_u (o_as rfl)) (qc rfl rfl (s_u (o_as rfl)) qn))) en ?_
      intro _
      refine ex_sub (E' := [(2, pt b14 0), (3, vI r3.2)]) ⟨rfl, rfl, trivial⟩ ?_
      refine x_seq ?_
      refine c_ret ?_
      refine ex_st (fun _ h => mv3 (mv3 (mv3 (mv1 h)))) ?_
      refine ex_st (fun _ h => st_some (f := store_Store.op (⟨(pv10, g11), (pv5, g6), v13⟩ : store_Store.G)) (a := (⟨a0, r8, r3.1, [], 0, 0, 0, (⟨0, 0⟩ : api_Tally)⟩ : store_Store)) (st_star_f (A := store_Store.fl b14 (⟨a0, r8, r3.1, [], 0, 0, 0, (⟨0, 0⟩ : api_Tally)⟩ : store_Store) (⟨(pv10, g11), (pv5, g6), v13⟩ : store_Store.G)) h)) ?_
      obtain rfl := Option.some.inj hm12
      refine ex_st (fun _ h => st_pk 2 [0] (by decide) h) ?_
      exact x_r2 rfl (rv_t rfl) (rv_t rfl) (Le.refl _) ⟨_, rfl, (pt b14 0, (⟨(pv10, g11), (pv5, g6), v13⟩ : store_Store.G)), rfl, rfl, rfl⟩
    · rintro v13 R _ _ ⟨rfl, rfl⟩
      refine stage rfl rfl rfl rfl [0, 0, 0, 0, 15, 31, 0, 63, 255] [0, 2, 6] [1] rfl rfl rfl (qc rfl rfl (s_u (o_ldn 2 (api_Config.c a0) ag24 rfl rfl rfl rfl)) (qc rfl rfl (s_u (o_mv rfl)) (qc rfl rfl (s_u (o_mv rfl)) qn))) ?_ (fun h => absurd h (by decide))
      refine ec (eo_w rfl (s_w (o_call ca42 rfl (table_New.ok r8 hr8))) ?_) en
      rintro pv10 R _ _ ⟨⟨_, g11⟩, rfl, rfl, rfl⟩
      refine stage_ext [(4, .agg [vI a0.Policy, vI a0.Entries, vI a0.Bytes, vW a0.Seed, pv10, pv5, v13, vW 0, vW 0, vW 0, vI 0, vI 0].toArray)] rfl ?_
      refine stage rfl rfl rfl rfl [0, 0, 0, 0, 15, 31, 0, 63, 255] [0, 2, 4, 6] [5] rfl rfl rfl (qc rfl rfl (s_u (o_ldn 3 (api_Config.c a0) ag24 rfl rfl rfl rfl)) (qc rfl rfl (s_u (o_mv rfl)) (qc rfl rfl (s_u (ou_if (hd_p 0 rfl) fun hb0 => ou_if (hd_p 2 rfl) fun hb1 => ou_if (hd_m 1 rfl) fun hb2 => o_bld [vI a0.Policy, vI a0.Entries, vI a0.Bytes, vW a0.Seed, pv10, pv5, v13, vW 0, vW 0, vW 0, vI 0, vI 0] rfl (fun _ => by obtain ⟨_, rfl⟩ := hb0; obtain ⟨_, rfl⟩ := hb1; obtain ⟨_, rfl⟩ := hb2; kernel_rfl))) (qc rfl rfl (s_u (o_mv rfl)) qn)))) ?_ (fun h => absurd h (by decide))
      refine ec (eo_n rfl (s_w (o_bx [vI a0.Policy, vI a0.Entries, vI a0.Bytes, vW a0.Seed, pv10, pv5, v13, vW 0, vW 0, vW 0, vI 0, vI 0] rfl rfl)) fun b14 => ?_) en
      refine stage_ext [(7, pt b14 0), (8, vI r3.2)] rfl ?_
      refine stage rfl rfl rfl rfl [0, 0, 0, 0, 15, 31, 0, 63, 255] [6, 7, 8] [] rfl rfl rfl (qc rfl rfl (s_u (o_mv rfl)) (qc rfl rfl (s_u (o_as rfl)) (qc rfl rfl (s_u (o_as rfl)) qn))) en ?_
      intro _
      refine ex_sub (E' := [(2, pt b14 0), (3, vI r3.2)]) ⟨rfl, rfl, trivial⟩ ?_
      refine x_seq ?_
      refine c_ret ?_
      refine ex_st (fun _ h => mv3 (mv3 (mv3 (mv2 h)))) ?_
      refine ex_st (fun _ h => st_some (f := store_Store.op (⟨(pv10, g11), (pv5, g6), v13⟩ : store_Store.G)) (a := (⟨a0, r8, r3.1, [], 0, 0, 0, (⟨0, 0⟩ : api_Tally)⟩ : store_Store)) (st_star_f (A := store_Store.fl b14 (⟨a0, r8, r3.1, [], 0, 0, 0, (⟨0, 0⟩ : api_Tally)⟩ : store_Store) (⟨(pv10, g11), (pv5, g6), v13⟩ : store_Store.G)) h)) ?_
      obtain rfl := Option.some.inj hm12
      refine ex_st (fun _ h => st_pk 2 [0] (by decide) h) ?_
      exact x_r2 rfl (rv_t rfl) (rv_t rfl) (Le.refl _) ⟨_, rfl, (pt b14 0, (⟨(pv10, g11), (pv5, g6), v13⟩ : store_Store.G)), rfl, rfl, rfl⟩

def op_Check (a0 : api_Op) : Bool :=
  if ((decide (64 < (a0.Key.length : Int)) || decide (4096 < (a0.Value.length : Int))) || decide (1073741824 < a0.TTL)) then false else lt (if (a0.Kind == 1) then (a0.Kind == 1) else (a0.Kind == 3)) fun p3 => if p3 then ((((a0.Key != []) && (a0.Value == [])) && (a0.TTL == 0)) && (a0.Version == 0)) else if (a0.Kind == 2) then ((a0.Key != []) && (a0.Version == 0)) else if (a0.Kind == 4) then ((a0.Key != []) && decide (1 ≤ a0.Version)) else if (a0.Kind == 5) then decide (a0 = (⟨5, [], [], 0, 0⟩ : api_Op)) else false
theorem op_Check.ok {G R F} (a0 : api_Op) (r : Bool) (hm : op_Check a0 = r) : CO Tryz.prog 34 [.agg (api_Op.c a0).toArray] G R (F)
    (Ret fun u R' L' => u = vB r ∧ R' = R ∧ L' = F) := by
  unfold op_Check at hm
  refine co_ofN (N := 66) Tryz.func34 rfl rfl ?_
  refine c_seq ?_
  refine c_reg ?_
  refine r_new (o_bx (api_Op.c a0) rfl rfl) fun b0 => ?_
  refine r_u (o_as rfl) ?_
  refine r_nil ?_
  refine x_seq ?_
  refine c_seq ?_
  refine c_seq ?_
  refine c_reg ?_
  refine r_u (o_fa fa27_1 rfl) ?_
  refine r_u (o_ld 0 sc9 rfl rfl rfl) ?_
  refine r_u (o_lenS Tryz.underlying9 rfl) ?_
  refine r_u (o_bin rfl rfl (bI_gt (a0.Key.length : Int) 64)) ?_
  refine r_u (o_mv rfl) ?_
  refine r_s (s_gf rfl rfl fun g => o_fa fa27_2 rfl) ?_
  refine r_s (s_gf rfl rfl fun g => o_ld 0 sc9 (evg rfl g) rfl rfl) ?_
  refine r_s (s_gf rfl rfl fun g => o_lenS Tryz.underlying9 (evg rfl g)) ?_
  refine r_s (s_gf rfl rfl fun g => o_bin (evg rfl g) rfl (bI_gt (a0.Value.length : Int) 4096)) ?_
  refine r_u (o_or rfl rfl) ?_
  refine r_u (o_mv rfl) ?_
  refine r_s (s_gf rfl rfl fun g => o_fa fa27_3 rfl) ?_
  refine r_s (s_gf rfl rfl fun g => o_ld 0 sc22 (evg rfl g) rfl rfl) ?_
  refine r_s (s_gf rfl rfl fun g => o_bin (evg rfl g) rfl (bW_gt a0.TTL 1073741824)) ?_
  refine r_u (o_or rfl rfl) ?_
  refine r_nil ?_
  refine x_seq ?_
  refine c_if (b := ((decide (64 < (a0.Key.length : Int)) || decide (4096 < (a0.Value.length : Int))) || decide (1073741824 < a0.TTL))) rfl (fun h1 => ?_) fun h1 => ?_
  · have hm2 := ift hm h1
    clear hm
    refine c_seq ?_
    refine c_reg ?_
    refine r_u (o_as rfl) ?_
    refine r_nil ?_
    refine x_seq ?_
    refine c_ret ?_
    subst hm2
    refine ex_st (fun _ h => st_pk 1 [] (by decide) h) ?_
    exact x_r1 rfl (rv_t rfl) (Le.refl _) ⟨_, rfl, rfl, rfl, rfl⟩
  · have hm2 := iff_ hm h1
    clear hm
    refine c_skip ?_
    refine x_seq ?_
    refine c_seq ?_
    refine c_seq ?_
    refine c_reg ?_
    refine r_u (o_fa fa27_0 rfl) ?_
    refine r_u (o_ld 0 sc3 rfl rfl rfl) ?_
    refine r_nil ?_
    refine x_seq ?_
    refine c_blk ?_
    refine c_seq ?_
    refine c_seq ?_
    refine c_reg ?_
    refine r_u (o_bin rfl rfl (bI_eq a0.Kind 1)) ?_
    refine r_u (o_as rfl) ?_
    refine r_nil ?_
    refine x_seq ?_
    obtain ⟨p3, hp4, hm5⟩ := ltx hm2
    refine cd_join (E' := [(1, pt b0 0), (19, vI a0.Kind), (20, vB p3)]) (L' := Bk b0 27 (api_Op.c a0) :: F) ?_ fun K6 => ?_
    · refine x_seq ?_
      refine c_if (b := p3) rfl (fun h7 => ?_) fun h7 => ?_
      · have hm8 := ift hm5 h7
        clear hm5
        refine c_seq ?_
        refine c_reg ?_
        refine r_u (o_fa fa27_1 rfl) ?_
        refine r_u (o_ld 0 sc9 rfl rfl rfl) ?_
        refine r_u (o_bin rfl rfl (bS_ne a0.Key [])) ?_
        refine r_u (o_mv rfl) ?_
        refine r_s (s_gt rfl rfl fun g => o_fa fa27_2 rfl) ?_
        refine r_s (s_gt rfl rfl fun g => o_ld 0 sc9 (evg rfl g) rfl rfl) ?_
        refine r_s (s_gt rfl rfl fun g => o_bin (evg rfl g) rfl (bS_eq a0.Value [])) ?_
        refine r_u (o_and rfl rfl) ?_
        refine r_u (o_mv rfl) ?_
        refine r_s (s_gt rfl rfl fun g => o_fa fa27_3 rfl) ?_
        refine r_s (s_gt rfl rfl fun g => o_ld 0 sc22 (evg rfl g) rfl rfl) ?_
        refine r_s (s_gt rfl rfl fun g => o_bin (evg rfl g) rfl (bW_eq a0.TTL 0)) ?_
        refine r_u (o_and rfl rfl) ?_
        refine r_u (o_mv rfl) ?_
        refine r_s (s_gt rfl rfl fun g => o_fa fa27_4 rfl) ?_
        refine r_s (s_gt rfl rfl fun g => o_ld 0 sc22 (evg rfl g) rfl rfl) ?_
        refine r_s (s_gt rfl rfl fun g => o_bin (evg rfl g) rfl (bW_eq a0.Version 0)) ?_
        refine r_u (o_and rfl rfl) ?_
        refine r_u (o_as rfl) ?_
        refine r_nil ?_
        refine x_seq ?_
        refine c_ret ?_
        subst hm8
        refine ex_st (fun _ h => st_pk 1 [] (by decide) h) ?_
        exact x_r1 rfl (rv_t rfl) (Le.refl _) ⟨_, rfl, rfl, rfl, rfl⟩
      · have hm8 := iff_ hm5 h7
        clear hm5
        refine c_seq ?_
        refine c_reg ?_
        refine r_u (o_bin rfl rfl (bI_eq a0.Kind 2)) ?_
        refine r_u (o_as rfl) ?_
        refine r_nil ?_
        refine x_seq ?_
        refine c_if (b := (a0.Kind == 2)) rfl (fun h9 => ?_) fun h9 => ?_
        · have hm10 := ift hm8 h9
          clear hm8
          refine c_seq ?_
          refine c_reg ?_
          refine r_u (o_fa fa27_1 rfl) ?_
          refine r_u (o_ld 0 sc9 rfl rfl rfl) ?_
          refine r_u (o_bin rfl rfl (bS_ne a0.Key [])) ?_
          refine r_u (o_mv rfl) ?_
          refine r_s (s_gt rfl rfl fun g => o_fa fa27_4 rfl) ?_
          refine r_s (s_gt rfl rfl fun g => o_ld 0 sc22 (evg rfl g) rfl rfl) ?_
          refine r_s (s_gt rfl rfl fun g => o_bin (evg rfl g) rfl (bW_eq a0.Version 0)) ?_
          refine r_u (o_and rfl rfl) ?_
          refine r_u (o_as rfl) ?_
          refine r_nil ?_
          refine x_seq ?_
          refine c_ret ?_
          subst hm10
          refine ex_st (fun _ h => st_pk 1 [] (by decide) h) ?_
          exact x_r1 rfl (rv_t rfl) (Le.refl _) ⟨_, rfl, rfl, rfl, rfl⟩
        · have hm10 := iff_ hm8 h9
          clear hm8
          refine c_seq ?_
          refine c_reg ?_
          refine r_u (o_bin rfl rfl (bI_eq a0.Kind 4)) ?_
          refine r_u (o_as rfl) ?_
          refine r_nil ?_
          refine x_seq ?_
          refine c_if (b := (a0.Kind == 4)) rfl (fun h11 => ?_) fun h11 => ?_
          · have hm12 := ift hm10 h11
            clear hm10
            refine c_seq ?_
            refine c_reg ?_
            refine r_u (o_fa fa27_1 rfl) ?_
            refine r_u (o_ld 0 sc9 rfl rfl rfl) ?_
            refine r_u (o_bin rfl rfl (bS_ne a0.Key [])) ?_
            refine r_u (o_mv rfl) ?_
            refine r_s (s_gt rfl rfl fun g => o_fa fa27_4 rfl) ?_
            refine r_s (s_gt rfl rfl fun g => o_ld 0 sc22 (evg rfl g) rfl rfl) ?_
            refine r_s (s_gt rfl rfl fun g => o_bin (evg rfl g) rfl (bW_ge a0.Version 1)) ?_
            refine r_u (o_and rfl rfl) ?_
            refine r_u (o_as rfl) ?_
            refine r_nil ?_
            refine x_seq ?_
            refine c_ret ?_
            subst hm12
            refine ex_st (fun _ h => st_pk 1 [] (by decide) h) ?_
            exact x_r1 rfl (rv_t rfl) (Le.refl _) ⟨_, rfl, rfl, rfl, rfl⟩
          · have hm12 := iff_ hm10 h11
            clear hm10
            refine c_seq ?_
            refine c_reg ?_
            refine r_u (o_bin rfl rfl (bI_eq a0.Kind 5)) ?_
            refine r_u (o_as rfl) ?_
            refine r_nil ?_
            refine x_seq ?_
            refine c_if (b := (a0.Kind == 5)) rfl (fun h13 => ?_) fun h13 => ?_
            · have hm14 := ift hm12 h13
              clear hm12
              refine c_seq ?_
              refine c_reg ?_
              refine r_u (o_ldn 0 (api_Op.c a0) ag27 rfl rfl rfl rfl) ?_
              refine r_u (o_bld [vI 5, vS [], vS [], vW 0, vW 0] rfl (fun _ => by kernel_rfl)) ?_
              refine r_u (o_bin rfl rfl (api_Op.beq_27 a0 (⟨5, [], [], 0, 0⟩ : api_Op))) ?_
              refine r_u (o_as rfl) ?_
              refine r_nil ?_
              refine x_seq ?_
              refine c_ret ?_
              subst hm14
              refine ex_st (fun _ h => st_pk 1 [] (by decide) h) ?_
              exact x_r1 rfl (rv_t rfl) (Le.refl _) ⟨_, rfl, rfl, rfl, rfl⟩
            · have hm14 := iff_ hm12 h13
              clear hm12
              refine c_skip ?_
              refine x_blk ?_
              refine x_seq ?_
              refine c_seq ?_
              refine c_reg ?_
              refine r_u (o_as rfl) ?_
              refine r_nil ?_
              refine x_seq ?_
              refine c_ret ?_
              subst hm14
              refine ex_st (fun _ h => st_pk 1 [] (by decide) h) ?_
              exact x_r1 rfl (rv_t rfl) (Le.refl _) ⟨_, rfl, rfl, rfl, rfl⟩
    · refine c_if (b := (a0.Kind == 1)) rfl (fun h15 => ?_) fun h15 => ?_
      · have hm16 := ift hp4 h15
        clear hp4
        refine c_skip ?_
        subst hm16
        exact x_sub K6 ⟨rfl, rfl, rfl, trivial⟩ (fun _ h => st_pk 1 [0] (by decide) h)
      · have hm16 := iff_ hp4 h15
        clear hp4
        refine c_reg ?_
        refine r_u (o_bin rfl rfl (bI_eq a0.Kind 3)) ?_
        refine r_u (o_as rfl) ?_
        refine r_nil ?_
        subst hm16
        exact x_sub K6 ⟨rfl, rfl, rfl, trivial⟩ (fun _ h => st_pk 1 [0] (by decide) h)

open Go.Shelf Go.Proofs in
def Tryz.keysL_ren : Go.Shelf.Ren := ⟨fun | 7 => 74 | 10 => 127 | n => n, fun | 23 => 136 | 26 => 9 | 3 => 50 | 28 => 148 | 0 => 0 | 27 => 147 | 33 => 100 | 4 => 4 | n => n, fun | n => n⟩
theorem Tryz.keysL : Go.Proofs.SlLaysZ.n7 Tryz.prog Tryz.keysL_ren := {
  mixed := by kernel_rfl
  f7 := ⟨Tryz.f74.name, by decide, Tryz.func74.trans (congrArg some (by kernel_rfl))⟩
  f10 := ⟨Tryz.f127.name, by decide, Tryz.func127.trans (congrArg some (by kernel_rfl))⟩
  t0 := Tryz.underlying0
  a0 := Tryz.isAgg0
  z0 := Tryz.sizeOf0
  v0 := Tryz.zeroValue0
  t4 := Tryz.underlying4
  a4 := Tryz.isAgg4
  z4 := Tryz.sizeOf4
  v4 := Tryz.zeroValue4
  t23 := Tryz.underlying136
  a23 := Tryz.isAgg136
  z23 := Tryz.sizeOf136
  v23 := Tryz.zeroValue136
  t26 := Tryz.underlying9
  a26 := Tryz.isAgg9
  z26 := Tryz.sizeOf9
  v26 := Tryz.zeroValue9
  t27 := Tryz.underlying147
  a27 := Tryz.isAgg147
  z27 := Tryz.sizeOf147
  v27 := Tryz.zeroValue147
  t28 := Tryz.underlying148
  a28 := Tryz.isAgg148
  z28 := Tryz.sizeOf148
  v28 := Tryz.zeroValue148
  t33 := Tryz.underlying100
  a33 := Tryz.isAgg100
  z33 := Tryz.sizeOf100
  v33 := Tryz.zeroValue100 }
def Tryz.sortedL_ren : Go.Shelf.Ren := ⟨fun | 6 => 73 | 8 => 125 | 9 => 126 | 11 => 171 | 13 => 149 | 12 => 172 | 23 => 199 | 24 => 200 | 14 => 217 | 15 => 218 | 16 => 219 | 17 => 220 | 18 => 221 | 19 => 222 | 20 => 223 | 21 => 224 | 22 => 225 | 25 => 241 | 26 => 233 | 27 => 234 | 28 => 242 | 29 => 243 | 30 => 244 | 31 => 250 | n => n, fun | 26 => 9 | 28 => 148 | 24 => 98 | 0 => 0 | 3 => 3 | 37 => 134 | 48 => 128 | 50 => 22 | 4 => 4 | 40 => 265 | 39 => 264 | 45 => 231 | 5 => 5 | 9 => 9 | 51 => 291 | 55 => 294 | 57 => 300 | 58 => 255 | 33 => 100 | n => n, fun | n => n⟩
theorem Tryz.sortedL : Go.Proofs.SlLaysZ.n6 Tryz.prog Tryz.sortedL_ren := {
  mixed := by kernel_rfl
  f6 := ⟨Tryz.f73.name, by decide, Tryz.func73.trans (congrArg some (by kernel_rfl))⟩
  f8 := ⟨Tryz.f125.name, by decide, Tryz.func125.trans (congrArg some (by kernel_rfl))⟩
  f11 := ⟨Tryz.f171.name, by decide, Tryz.func171.trans (congrArg some (by kernel_rfl))⟩
  t0 := Tryz.underlying0
  a0 := Tryz.isAgg0
  z0 := Tryz.sizeOf0
  v0 := Tryz.zeroValue0
  t24 := Tryz.underlying98
  a24 := Tryz.isAgg98
  z24 := Tryz.sizeOf98
  v24 := Tryz.zeroValue98
  t26 := Tryz.underlying9
  a26 := Tryz.isAgg9
  z26 := Tryz.sizeOf9
  v26 := Tryz.zeroValue9
  t28 := Tryz.underlying148
  a28 := Tryz.isAgg148
  z28 := Tryz.sizeOf148
  v28 := Tryz.zeroValue148
  i26 := by kernel_rfl }
def Tryz.sortL_ren : Go.Shelf.Ren := ⟨fun | 6 => 126 | 8 => 149 | 9 => 172 | 19 => 199 | 20 => 200 | 21 => 217 | 22 => 218 | 23 => 219 | 24 => 220 | 25 => 221 | 26 => 222 | 27 => 223 | 28 => 224 | 29 => 225 | 36 => 241 | 31 => 233 | 32 => 234 | 37 => 242 | 38 => 243 | 39 => 244 | 41 => 250 | n => n, fun | 27 => 98 | 29 => 9 | 3 => 3 | 32 => 134 | 26 => 98 | 0 => 0 | 44 => 128 | 46 => 22 | 4 => 4 | 36 => 265 | 35 => 264 | 41 => 231 | 5 => 5 | 9 => 9 | 53 => 291 | 57 => 294 | 63 => 300 | 64 => 255 | n => n, fun | n => n⟩
theorem Tryz.sortL : Go.Proofs.SlLaysM.n6 Tryz.prog Tryz.sortL_ren := {
  mixed := by kernel_rfl
  f6 := ⟨Tryz.f126.name, by decide, Tryz.func126.trans (congrArg some (by kernel_rfl))⟩
  f8 := Tryz.func149.trans (congrArg some (by kernel_rfl))
  f9 := ⟨Tryz.f172.name, by decide, Tryz.func172.trans (congrArg some (by kernel_rfl))⟩
  f19 := Tryz.func199.trans (congrArg some (by kernel_rfl))
  f20 := Tryz.func200.trans (congrArg some (by kernel_rfl))
  f21 := ⟨Tryz.f217.name, by decide, Tryz.func217.trans (congrArg some (by kernel_rfl))⟩
  f22 := ⟨Tryz.f218.name, by decide, Tryz.func218.trans (congrArg some (by kernel_rfl))⟩
  f23 := ⟨Tryz.f219.name, by decide, Tryz.func219.trans (congrArg some (by kernel_rfl))⟩
  f24 := ⟨Tryz.f220.name, by decide, Tryz.func220.trans (congrArg some (by kernel_rfl))⟩
  f25 := ⟨Tryz.f221.name, by decide, Tryz.func221.trans (congrArg some (by kernel_rfl))⟩
  f26 := ⟨Tryz.f222.name, by decide, Tryz.func222.trans (congrArg some (by kernel_rfl))⟩
  f27 := ⟨Tryz.f223.name, by decide, Tryz.func223.trans (congrArg some (by kernel_rfl))⟩
  f28 := ⟨Tryz.f224.name, by decide, Tryz.func224.trans (congrArg some (by kernel_rfl))⟩
  f29 := ⟨Tryz.f225.name, by decide, Tryz.func225.trans (congrArg some (by kernel_rfl))⟩
  f31 := Tryz.func233.trans (congrArg some (by kernel_rfl))
  f32 := Tryz.func234.trans (congrArg some (by kernel_rfl))
  f36 := ⟨Tryz.f241.name, by decide, Tryz.func241.trans (congrArg some (by kernel_rfl))⟩
  f37 := ⟨Tryz.f242.name, by decide, Tryz.func242.trans (congrArg some (by kernel_rfl))⟩
  f38 := ⟨Tryz.f243.name, by decide, Tryz.func243.trans (congrArg some (by kernel_rfl))⟩
  f39 := ⟨Tryz.f244.name, by decide, Tryz.func244.trans (congrArg some (by kernel_rfl))⟩
  f41 := ⟨Tryz.f250.name, by decide, Tryz.func250.trans (congrArg some (by kernel_rfl))⟩
  t0 := Tryz.underlying0
  a0 := Tryz.isAgg0
  z0 := Tryz.sizeOf0
  v0 := Tryz.zeroValue0
  t3 := Tryz.underlying3
  a3 := Tryz.isAgg3
  z3 := Tryz.sizeOf3
  v3 := Tryz.zeroValue3
  t4 := Tryz.underlying4
  a4 := Tryz.isAgg4
  z4 := Tryz.sizeOf4
  v4 := Tryz.zeroValue4
  t5 := Tryz.underlying5
  a5 := Tryz.isAgg5
  z5 := Tryz.sizeOf5
  v5 := Tryz.zeroValue5
  t9 := Tryz.underlying9
  a9 := Tryz.isAgg9
  z9 := Tryz.sizeOf9
  v9 := Tryz.zeroValue9
  t26 := Tryz.underlying98
  a26 := Tryz.isAgg98
  z26 := Tryz.sizeOf98
  v26 := Tryz.zeroValue98
  t27 := Tryz.underlying98
  a27 := Tryz.isAgg98
  z27 := Tryz.sizeOf98
  v27 := Tryz.zeroValue98
  t29 := Tryz.underlying9
  a29 := Tryz.isAgg9
  z29 := Tryz.sizeOf9
  v29 := Tryz.zeroValue9
  t32 := Tryz.underlying134
  a32 := Tryz.isAgg134
  z32 := Tryz.sizeOf134
  v32 := Tryz.zeroValue134
  t35 := Tryz.underlying264
  a35 := Tryz.isAgg264
  z35 := Tryz.sizeOf264
  v35 := Tryz.zeroValue264
  t36 := Tryz.underlying265
  a36 := Tryz.isAgg265
  z36 := Tryz.sizeOf265
  v36 := Tryz.zeroValue265
  t41 := Tryz.underlying231
  a41 := Tryz.isAgg231
  z41 := Tryz.sizeOf231
  v41 := Tryz.zeroValue231
  t44 := Tryz.underlying128
  a44 := Tryz.isAgg128
  z44 := Tryz.sizeOf128
  v44 := Tryz.zeroValue128
  t46 := Tryz.underlying22
  a46 := Tryz.isAgg22
  z46 := Tryz.sizeOf22
  v46 := Tryz.zeroValue22
  t53 := Tryz.underlying291
  a53 := Tryz.isAgg291
  z53 := Tryz.sizeOf291
  v53 := Tryz.zeroValue291
  t57 := Tryz.underlying294
  a57 := Tryz.isAgg294
  z57 := Tryz.sizeOf294
  v57 := Tryz.zeroValue294
  t63 := Tryz.underlying300
  a63 := Tryz.isAgg300
  z63 := Tryz.sizeOf300
  v63 := Tryz.zeroValue300
  t64 := Tryz.underlying255
  a64 := Tryz.isAgg255
  z64 := Tryz.sizeOf255
  v64 := Tryz.zeroValue255 }
def Tryz.delL_ren : Go.Shelf.Ren := ⟨fun | 10 => 64 | 6 => 115 | n => n, fun | 22 => 98 | 23 => 9 | 25 => 100 | 3 => 3 | 4 => 4 | 0 => 0 | n => n, fun | n => n⟩
theorem Tryz.delL : Go.Proofs.SlLaysH.n10 Tryz.prog Tryz.delL_ren := {
  mixed := by kernel_rfl
  f6 := ⟨Tryz.f115.name, by decide, Tryz.func115.trans (congrArg some (by kernel_rfl))⟩
  f10 := ⟨Tryz.f64.name, by decide, Tryz.func64.trans (congrArg some (by kernel_rfl))⟩
  t0 := Tryz.underlying0
  a0 := Tryz.isAgg0
  z0 := Tryz.sizeOf0
  v0 := Tryz.zeroValue0
  t3 := Tryz.underlying3
  a3 := Tryz.isAgg3
  z3 := Tryz.sizeOf3
  v3 := Tryz.zeroValue3
  t4 := Tryz.underlying4
  a4 := Tryz.isAgg4
  z4 := Tryz.sizeOf4
  v4 := Tryz.zeroValue4
  t22 := Tryz.underlying98
  a22 := Tryz.isAgg98
  z22 := Tryz.sizeOf98
  v22 := Tryz.zeroValue98
  a23 := Tryz.isAgg9
  z23 := Tryz.sizeOf9
  t25 := Tryz.underlying100
  a25 := Tryz.isAgg100
  z25 := Tryz.sizeOf100
  v25 := Tryz.zeroValue100 }

open Go.Proofs in
/-- slices.Sort's two contracts. -/
theorem sortsL (m : Nat) : AnyZ.SortsIn Tryz.prog Tryz.sortedL_ren Fence.wide m :=
  ⟨fun blk off cap ss W hH hblk hsz => callsIn_wide.2 (AnyM.slices_Sort_string Tryz.sortL blk off cap ss W hH hblk hsz), fun p cap W => callsIn_wide.2 (AnyM.slices_Sort_string_none Tryz.sortL p cap W)⟩
open Go.Proofs in
theorem mkeysL {G R} {F : List HP} {V : Type} {vv : V → Value} {v : Value} {m : List (Str × V)} : CO Tryz.prog 74 [v] G R (OwM vS vv v m :: F) (Ret fun u R' L' => ∃ b, u = .func (.func 127) #[] #[pt b 0] ∧ R' = R ∧ L' = Bk b 136 [v] :: OwM vS vv v m :: F) :=
  co_mkeys fun mb w => AnyZ.keys_in Tryz.keysL Fence.wide 5 trivial rfl mb w
open Go.Proofs in
theorem sortedL {G R} {F : List HP} {V : Type} {vv : V → Value} {v : Value} {m : List (Str × V)} {b : Nat} {r : List Str} (hm : mkeys m = some r) : CO Tryz.prog 73 [.func (.func 127) #[] #[pt b 0]] G R (Bk b 136 [v] :: OwM vS vv v m :: F) (Ret fun u R' L' => R' = R ∧ L' = OwS true 9 1 eS u r :: Bk b 136 [v] :: OwM vS vv v m :: F) :=
  co_sorted Tryz.underlying9 (fun b r nn D w hb hc hown h1 h2 => AnyZ.sorted_in Tryz.sortedL Fence.wide 5 trivial trivial trivial trivial rfl (by omega) (sortsL _) (enters_of Tryz.func126 (by kernel_rfl) rfl) 127 #[.pointer (some ⟨b, 0, none⟩)] trivial (enters_of Tryz.func127 (by kernel_rfl) rfl) _ _ h1 h2 _
    (AnyZ.keys_gives (ρ := Tryz.keysL_ren) { Tryz.keysL with } Fence.wide _ trivial rfl (by omega) b r nn D w hb hc hown)) hm
def table_Table_Keys (a0 : table_Table) : Option (List Str) := mkeys a0.m
theorem table_Table_Keys.ok {G R F} (b0_ : Nat) (a0 : table_Table) (g0_ : table_Table.G) (r : List Str) (hm : table_Table_Keys a0 = some r) : CO Tryz.prog 39 [pt b0_ 0] G R (Bk b0_ 138 [g0_.m, vI a0.bytes] :: OwM vS api_Entry.v g0_.m a0.m :: F)
    (Ret fun u R' L' => ∃ p0, u = p0 ∧ R' = R ∧ L' = OwS true 9 1 eS p0 r :: Bk b0_ 138 [g0_.m, vI a0.bytes] :: OwM vS api_Entry.v g0_.m a0.m :: F) := by
  unfold table_Table_Keys at hm
  refine co_ofN (N := 11) Tryz.func39 rfl rfl ?_
  refine c_seq ?_
  refine c_reg ?_
  refine r_u (o_as rfl) ?_
  refine r_nil ?_
  refine x_seq ?_
  refine c_seq ?_
  refine c_seq ?_
  refine c_reg ?_
  refine r_u (o_mv rfl) ?_
  refine r_u (o_bin rfl rfl (bP_eqp Tryz.underlying92)) ?_
  refine r_nil ?_
  refine x_seq ?_
  refine c_ff rfl ?_
  refine c_skip ?_
  refine x_seq ?_
  refine c_seq ?_
  refine c_reg ?_
  refine r_u (o_mv rfl) ?_
  refine r_u (o_nc rfl) ?_
  refine r_u (o_fa fa138_0 rfl) ?_
  refine r_u (o_ld 0 sc136 rfl rfl rfl) ?_
  refine rl_st (fun _ h => st_pk 2 [1, 0] (by decide) h) ?_
  refine r_sw (s_w (o_call ca74 rfl mkeysL)) ?_
  rintro _ R _ _ ⟨b3, rfl, rfl, rfl⟩
  refine r_sw (s_w (o_call ca73 rfl (sortedL hm))) ?_
  rintro v1 R _ _ ⟨rfl, rfl⟩
  refine r_u (o_as rfl) ?_
  refine r_nil ?_
  refine x_seq ?_
  refine c_ret ?_
  refine ex_st (fun _ h => st_pk 4 [0, 3, 2] (by decide) h) ?_
  exact x_r1 rfl (rv_t rfl) (Le.refl _) ⟨_, rfl, v1, rfl, rfl, rfl⟩


/-- Does an entry stay, at a tick? -/
def endp (m : List (Str × api_Entry)) (now : UInt64) (x : Str) : Bool := (((mget m x).getD ((⟨[], [], 0, 0⟩ : api_Entry) : api_Entry)).End.toNat == 0) || decide (now.toNat < ((mget m x).getD ((⟨[], [], 0, 0⟩ : api_Entry) : api_Entry)).End.toNat)
open Go.Shelf Go.RowKit Go.Lib Go.Sort Go.Proofs in
theorem endedCloW (b1 b2 b0 r : Nat) (now e : Int) (x : List UInt8) (k0 v0 : Value) (n0 : Int) (W : World) (h1 : W.cell? ⟨b1, 0, none⟩ = some (.pointer (some ⟨b0, 0, none⟩))) (h2 : W.cell? ⟨b2, 0, none⟩ = some (.int .u64 now)) (h3 : W.cell? ⟨b0, 0, none⟩ = some (.map (some r)))
    (hl : (Instr.lookup 136 (.map (some r)) (encStr x) false).run Tryz.prog W = .ok (.agg #[k0, v0, .int .u64 n0, .int .u64 e]) W) (hf : (Instr.field 50 (.agg #[k0, v0, .int .u64 n0, .int .u64 e]) 3).run Tryz.prog W = .ok (.int .u64 e) W) (p : Bool) (hp : p = (e == 0 || decide (now < e))) :
    FnGives Tryz.prog 65 #[.pointer (some ⟨b1, 0, none⟩), .pointer (some ⟨b2, 0, none⟩)] #[encStr x] (.bool p) W := by
  show Calls Tryz.prog 65 #[encStr x, .pointer (some ⟨b1, 0, none⟩), .pointer (some ⟨b2, 0, none⟩)] W _
  go_enter Tryz.func65, Tryz.ntmps65
  go_wp2
  all_goals (go_ret; exact ⟨by simp_all, 0, rfl⟩)
open Go.Proofs in
theorem endedClo (b1 b2 b0 : Nat) (gm y : Value) (now : UInt64) (m : List (Str × api_Entry)) (W : World) (x : Str) (h : HasL [Bk b1 92 [pt b0 0], Bk b2 22 [vW now], Bk b0 138 [gm, y], OwM vS api_Entry.v gm m] W) :
    FnGives Tryz.prog 65 #[pt b1 0, pt b2 0] #[encStr x] (.bool (endp m now x)) W := by
  obtain ⟨k1, p1, q1⟩ := h 0 _ rfl
  obtain ⟨k2, p2, q2⟩ := h 1 _ rfl
  obtain ⟨k0, p0, q0⟩ := h 2 _ rfl
  obtain ⟨km, ⟨r, es, clock, rfl, pm, he, _⟩, qm⟩ := h 3 _ rfl
  have c1 := q1 _ _ p1
  have c2 := q2 _ _ p2
  have c0 := q0 _ _ p0
  have cm := qm _ _ pm
  have hl := run_lk (P := Tryz.prog) (t := 136) (k := 9) (e := 50) Tryz.underlying136 (kok_S Tryz.underlying9) (z0 := ((⟨[], [], 0, 0⟩ : api_Entry) : api_Entry)) (fun _ => by kernel_rfl) cm he x
  exact endedCloW b1 b2 b0 r now.toNat _ x _ _ _ W (by simp [World.cell?, c1, pt]) (by simp [World.cell?, c2, vW]) (by simp [World.cell?, c0]) hl (by kernel_rfl) _ (by rw [Bool.eq_iff_iff]; unfold endp; simp only [Bool.or_eq_true, beq_iff_eq, decide_eq_true_eq]; omega)
theorem idxNil {G R} {F : List HP} {fv : Value} : CO Tryz.prog 115 [.slice none 0 0, fv] G R F (Ret fun u R' L' => u = vI (-1) ∧ R' = R ∧ L' = F) := by
  refine co_ofN (N := 19) Tryz.func115 rfl rfl ?_
  refine c_seq <| c_reg <| r_u (o_as rfl) <| r_nil <| x_seq <| c_seq <| c_seq <| c_reg <| r_u (o_mv rfl) <| r_u (o_lenN Tryz.underlying98 rfl) <| r_u (o_mv rfl) <| r_nil <| x_seq <| c_blk ?_
  refine cd_loop (σ := Unit) (M := fun k _ => k = 1) (Ef := fun _ => [(7, vI 0), (8, vI 0)]) (Lf := fun _ => F) 1 () rfl ⟨rfl, rfl, trivial⟩ (fun _ h => h) (fun _ h => by cases h) ?_
  intro k s hk
  refine c_seq <| c_reg <| r_u (o_bin rfl rfl (bI_lt 0 0)) <| r_nil <| x_seq <| c_seq <| c_ff rfl ?_
  refine c_exit (x_exit (ks' := _) rfl ?_)
  refine x_seq <| c_seq <| c_reg <| r_u (o_as rfl) <| r_nil <| x_seq <| c_ret ?_
  exact x_r1 rfl (rv_t rfl) (Le.refl _) ⟨_, rfl, rfl, rfl, rfl⟩
theorem delNil {G R} {F : List HP} {fv : Value} : CO Tryz.prog 64 [.slice none 0 0, fv] G R F (Ret fun u R' L' => u = .slice none 0 0 ∧ R' = R ∧ L' = F) := by
  refine co_ofN (N := 42) Tryz.func64 rfl rfl ?_
  refine c_seq <| c_reg <| r_u (o_as rfl) <| r_nil <| x_seq <| c_seq <| c_reg <| r_u (o_mv rfl) <| r_u (o_mv rfl) ?_
  refine r_c (s_w (o_call ca115 rfl idxNil)) ?_
  refine r_u (o_as rfl) <| r_nil <| x_seq <| c_seq <| c_seq <| c_reg <| r_u (o_mv rfl) <| r_u (o_bin rfl rfl (bI_eq (-1) (-1))) <| r_nil <| x_seq <| c_tt rfl ?_
  refine c_seq <| c_reg <| r_u (o_mv rfl) <| r_u (o_as rfl) <| r_nil <| x_seq <| c_ret ?_
  exact x_r1 rfl (rv_t rfl) (Le.refl _) ⟨_, rfl, rfl, rfl, rfl⟩
open Go.Proofs in
theorem delC {G R} {F : List HP} {b1 b2 b0 : Nat} {gm y v : Value} {now : UInt64} {m : List (Str × api_Entry)} {ks : List Str} :
    CO Tryz.prog 64 [v, .func (.func 65) #[] #[pt b1 0, pt b2 0]] G R (OwS true 9 1 eS v ks :: Bk b1 92 [pt b0 0] :: Bk b2 22 [vW now] :: Bk b0 138 [gm, y] :: OwM vS api_Entry.v gm m :: F)
      (Ret fun u R' L' => R' = R ∧ L' = OwS true 9 1 eS u (ks.filter fun x => !endp m now x) :: Bk b1 92 [pt b0 0] :: Bk b2 22 [vW now] :: Bk b0 138 [gm, y] :: OwM vS api_Entry.v gm m :: F) :=
  co_del (A := [Bk b1 92 [pt b0 0], Bk b2 22 [vW now], Bk b0 138 [gm, y], OwM vS api_Entry.v gm m]) (lb := [pt b1 0, pt b2 0]) (fun W x h => endedClo b1 b2 b0 gm y now m W x h) delNil
    fun blk off cap d w hp hpo hH h1 h2 => AnyE.slices_DeleteFunc Tryz.delL encStr (fun _ => rfl) _ 65 _ (enters_of Tryz.func65 (by kernel_rfl) rfl) [] Tryz.zeroValue9 blk off cap d w hp hpo hH h1 h2
def table_Table_Ended (a0 : table_Table) (a1 : UInt64) : Option (List Str) := (mkeys a0.m).bind fun l => some (l.filter fun x => !endp a0.m a1 x)
theorem table_Table_Ended.ok {G R F} (b0_ : Nat) (a0 : table_Table) (g0_ : table_Table.G) (a1 : UInt64) (r : List Str) (hm : table_Table_Ended a0 a1 = some r) : CO Tryz.prog 35 [pt b0_ 0, vW a1] G R (Bk b0_ 138 [g0_.m, vI a0.bytes] :: OwM vS api_Entry.v g0_.m a0.m :: F)
    (Ret fun u R' L' => ∃ p0, u = p0 ∧ R' = R ∧ L' = OwS true 9 1 eS p0 r :: Bk b0_ 138 [g0_.m, vI a0.bytes] :: OwM vS api_Entry.v g0_.m a0.m :: F) := by
  unfold table_Table_Ended at hm
  refine co_ofN (N := 9) Tryz.func35 rfl rfl ?_
  refine c_seq ?_
  refine c_reg ?_
  refine r_new (o_bx [pt b0_ 0] rfl rfl) fun b1 => ?_
  refine r_new (o_bx [vW a1] rfl rfl) fun b2 => ?_
  refine r_u (o_as rfl) ?_
  refine r_nil ?_
  refine x_seq ?_
  refine c_seq ?_
  refine c_reg ?_
  refine r_u (o_ld 1 sc92 rfl rfl rfl) ?_
  obtain ⟨r3, hr3, hm5⟩ := bs hm
  clear hm
  refine rl_st (fun _ h => st_pk 4 [2, 3, 0, 1] (by decide) h) ?_
  refine r_sw (s_w (o_call ca39 rfl (table_Table_Keys.ok b0_ a0 g0_ r3 hr3))) ?_
  rintro v4 R _ _ ⟨_, rfl, rfl, rfl⟩
  refine r_u (o_mf (vs := [pt b1 0, pt b2 0]) rfl) ?_
  refine rl_st (fun _ h => st_pk 5 [0, 4, 3, 1, 2] (by decide) h) ?_
  refine r_sw (s_w (o_call ca64 rfl delC)) ?_
  rintro v5 R _ _ ⟨rfl, rfl⟩
  refine r_u (o_as rfl) ?_
  refine r_nil ?_
  refine x_seq ?_
  refine c_ret ?_
  obtain rfl := Option.some.inj hm5
  refine ex_st (fun _ h => st_pk 5 [0, 3, 4] (by decide) h) ?_
  exact x_r1 rfl (rv_t rfl) (Le.refl _) ⟨_, rfl, v5, rfl, rfl, rfl⟩


def table_Table_Get (a0 : table_Table) (a1 : Str) : api_Entry × Bool :=
  (((mget a0.m a1).getD ((⟨[], [], 0, 0⟩ : api_Entry) : api_Entry)), (mget a0.m a1).isSome)
theorem table_Table_Get.ok {G R F} (b0_ : Nat) (a0 : table_Table) (g0_ : table_Table.G) (a1 : Str) (r : api_Entry × Bool) (hm : table_Table_Get a0 a1 = r) : CO Tryz.prog 40 [pt b0_ 0, vS a1] G R (Bk b0_ 138 [g0_.m, vI a0.bytes] :: OwM vS api_Entry.v g0_.m a0.m :: F)
    (Ret fun u R' L' => u = .tuple #[.agg (api_Entry.c r.1).toArray, vB r.2] ∧ R' = R ∧ L' = Bk b0_ 138 [g0_.m, vI a0.bytes] :: OwM vS api_Entry.v g0_.m a0.m :: F) := by
  unfold table_Table_Get at hm
  refine co_ofN (N := 22) Tryz.func40 rfl rfl ?_
  refine c_seq ?_
  refine c_reg ?_
  refine r_new (o_al ze50) fun b1 => ?_
  refine r_u (o_as rfl) ?_
  refine r_nil ?_
  refine x_seq ?_
  refine c_seq ?_
  refine c_seq ?_
  refine c_reg ?_
  refine r_u (o_mv rfl) ?_
  refine r_u (o_bin rfl rfl (bP_eqp Tryz.underlying92)) ?_
  refine r_nil ?_
  refine x_seq ?_
  refine c_ff rfl ?_
  refine c_skip ?_
  refine x_seq ?_
  refine c_seq ?_
  refine c_reg ?_
  refine r_u (o_mv rfl) ?_
  refine r_u (o_nc rfl) ?_
  refine r_u (o_fa fa138_0 rfl) ?_
  refine r_u (o_ld 1 sc136 rfl rfl rfl) ?_
  refine r_u (o_mv rfl) ?_
  refine r_u (o_lk (kv := vS) (vv := api_Entry.v) (key := a1) (z0 := ((⟨[], [], 0, 0⟩ : api_Entry) : api_Entry)) 2 Tryz.underlying136 (kok_S Tryz.underlying9) (fun _ => by kernel_rfl) rfl rfl rfl) ?_
  refine r_u (o_mv rfl) ?_
  refine r_u (o_ext rfl rfl) ?_
  refine r_u (o_ext rfl rfl) ?_
  refine r_new (o_al ze50) fun b2 => ?_
  refine r_u0 (o_stn ag50 rfl rfl rfl rfl rfl rfl rfl) ?_
  refine r_u (o_as rfl) ?_
  refine r_nil ?_
  refine x_seq ?_
  refine c_seq ?_
  refine c_reg ?_
  refine r_u (o_ldn 0 (api_Entry.c ((mget a0.m a1).getD ((⟨[], [], 0, 0⟩ : api_Entry) : api_Entry))) ag50 rfl rfl rfl rfl) ?_
  refine r_u (o_mv rfl) ?_
  refine rl_st (fun _ h => mv1 h) ?_
  refine r_u0 (o_stn ag50 rfl rfl rfl rfl rfl rfl rfl) ?_
  refine r_u (o_as rfl) ?_
  refine r_nil ?_
  refine x_seq ?_
  refine c_ret ?_
  subst hm
  exact x_d2 rfl (rv_n 0 (api_Entry.c ((mget a0.m a1).getD ((⟨[], [], 0, 0⟩ : api_Entry) : api_Entry))) ag50 rfl rfl rfl rfl) (rv_t rfl) (fun _ h => st_pk 4 [2, 3] (by decide) h) (Le.refl _) ⟨_, rfl, rfl, rfl, rfl⟩

def table_size (a0 : api_Entry) : Int :=
  i64 ((a0.Key.length : Int) + (a0.Value.length : Int))
theorem table_size.ok {G R F} (a0 : api_Entry) (r : Int) (hm : table_size a0 = r) : CO Tryz.prog 66 [.agg (api_Entry.c a0).toArray] G R (F)
    (Ret fun u R' L' => u = vI r ∧ R' = R ∧ L' = F) := by
  unfold table_size at hm
  refine co_ofN (N := 10) Tryz.func66 rfl rfl ?_
  refine c_seq ?_
  refine c_reg ?_
  refine r_new (o_bx (api_Entry.c a0) rfl rfl) fun b0 => ?_
  refine r_u (o_as rfl) ?_
  refine r_nil ?_
  refine x_seq ?_
  refine c_seq ?_
  refine c_reg ?_
  refine r_u (o_fa fa50_0 rfl) ?_
  refine r_u (o_ld 0 sc9 rfl rfl rfl) ?_
  refine r_u (o_lenS Tryz.underlying9 rfl) ?_
  refine r_u (o_fa fa50_1 rfl) ?_
  refine r_u (o_ld 0 sc9 rfl rfl rfl) ?_
  refine r_u (o_lenS Tryz.underlying9 rfl) ?_
  refine r_u (o_bin rfl rfl (bI_add (a0.Key.length : Int) (a0.Value.length : Int))) ?_
  refine r_u (o_as rfl) ?_
  refine r_nil ?_
  refine x_seq ?_
  refine c_ret ?_
  subst hm
  refine ex_st (fun _ h => st_pk 1 [] (by decide) h) ?_
  exact x_r1 rfl (rv_t rfl) (Le.refl _) ⟨_, rfl, rfl, rfl, rfl⟩

def table_Table_Drop (a0 : table_Table) (a1 : Str) : Bool × table_Table :=
  lt (table_Table_Get a0 a1) fun r1 => if r1.2 then (r1.2, (⟨mdel a0.m a1, i64 (a0.bytes - (table_size r1.1))⟩ : table_Table)) else (r1.2, a0)
theorem table_Table_Drop.ok {G R F} (b0_ : Nat) (a0 : table_Table) (g0_ : table_Table.G) (a1 : Str) (r : Bool × table_Table) (hm : table_Table_Drop a0 a1 = r) : CO Tryz.prog 36 [pt b0_ 0, vS a1] G R (Bk b0_ 138 [g0_.m, vI a0.bytes] :: OwM vS api_Entry.v g0_.m a0.m :: F)
    (Ret fun u R' L' => u = vB r.1 ∧ R' = R ∧ L' = Bk b0_ 138 [g0_.m, vI r.2.bytes] :: OwM vS api_Entry.v g0_.m r.2.m :: F) := by
  unfold table_Table_Drop at hm
  refine co_ofN (N := 29) Tryz.func36 rfl rfl ?_
  refine c_seq ?_
  refine c_reg ?_
  refine r_u (o_as rfl) ?_
  refine r_nil ?_
  refine x_seq ?_
  refine c_seq ?_
  refine c_reg ?_
  refine r_u (o_mv rfl) ?_
  refine r_u (o_mv rfl) ?_
  obtain ⟨r1, hr1, hm2⟩ := ltx hm
  clear hm
  refine r_c (s_w (o_call ca40 rfl (table_Table_Get.ok b0_ a0 g0_ a1 r1 hr1))) ?_
  refine r_u (o_mv rfl) ?_
  refine r_u (o_ext rfl rfl) ?_
  refine r_u (o_ext rfl rfl) ?_
  refine r_new (o_al ze50) fun b3 => ?_
  refine r_u0 (o_stn ag50 rfl rfl rfl rfl rfl rfl rfl) ?_
  refine r_u (o_as rfl) ?_
  refine r_nil ?_
  refine x_seq ?_
  refine c_seq ?_
  refine c_seq ?_
  refine c_reg ?_
  refine r_u (o_mv rfl) ?_
  refine r_nil ?_
  refine x_seq ?_
  refine c_if (b := r1.2) rfl (fun h4 => ?_) fun h4 => ?_
  · have hm5 := ift hm2 h4
    clear hm2
    refine c_seq ?_
    refine c_reg ?_
    refine r_u (o_mv rfl) ?_
    refine r_u (o_nc rfl) ?_
    refine r_u (o_fa fa138_0 rfl) ?_
    refine r_u (o_ld 1 sc136 rfl rfl rfl) ?_
    refine r_u (o_mv rfl) ?_
    refine rl_st (fun _ h => mv2 h) ?_
    refine r_u0 (o_del (kv := vS) (vv := api_Entry.v) (key := a1) Tryz.underlying136 (kok_S Tryz.underlying9) rfl rfl rfl rfl) ?_
    refine r_nil ?_
    refine x_seq ?_
    refine c_any mixed (effs := [9]) (V := []) ?_
    refine stage_st (fun _ h => mv2 h) ?_
    refine stage_ext [(0, pt b0_ 0), (1, pt b0_ 0), (2, pt b0_ 1), (3, vI a0.bytes), (4, .agg (api_Entry.c r1.1).toArray), (5, vI (table_size r1.1)), (6, vI (i64 (a0.bytes - (table_size r1.1)))), (7, pt b0_ 0), (8, pt b0_ 1)] rfl ?_
    refine stage rfl rfl rfl rfl [0, 1, 3, 7, 0, 16, 63, 127, 255, 511] [0, 1, 2, 3, 4, 5, 6, 7, 8] [9] rfl rfl rfl (qc rfl rfl (s_u (o_mv rfl)) (qc rfl rfl (s_u (o_nc rfl)) (qc rfl rfl (s_u (o_fa fa138_1 rfl)) (qc rfl rfl (s_u (o_ld 0 sc3 rfl rfl rfl)) (qc rfl rfl (s_u (o_ldn 2 (api_Entry.c r1.1) ag50 rfl rfl rfl rfl)) (qc rfl rfl (s_u (o_callq ca66 rfl (table_size.ok r1.1 _ rfl))) (qc rfl rfl (s_u (o_bin rfl rfl (bI_sub a0.bytes (table_size r1.1)))) (qc rfl rfl (s_u (o_nc rfl)) (qc rfl rfl (s_u (o_fa fa138_1 rfl)) qn))))))))) ?_ (fun h => absurd h (by decide))
    refine ec (eo_u rfl (s_u (o_st sc3 rfl rfl rfl rfl rfl rfl)) (Le.refl _) ?_) en
    refine stage rfl rfl rfl rfl [0, 1, 3, 7, 0, 16, 63, 127, 255, 511] [] [] rfl rfl rfl qn en ?_
    intro _
    refine ex_sub (E' := [(6, vB r1.2)]) ⟨rfl, trivial⟩ ?_
    refine x_seq ?_
    refine c_seq ?_
    refine c_reg ?_
    refine r_u (o_mv rfl) ?_
    refine r_u (o_as rfl) ?_
    refine r_nil ?_
    refine x_seq ?_
    refine c_ret ?_
    subst hm5
    refine ex_st (fun _ h => st_pk 3 [0, 1] (by decide) h) ?_
    exact x_r1 rfl (rv_t rfl) (Le.refl _) ⟨_, rfl, rfl, rfl, rfl⟩
  · have hm5 := iff_ hm2 h4
    clear hm2
    refine c_skip ?_
    refine x_seq ?_
    refine c_seq ?_
    refine c_reg ?_
    refine r_u (o_mv rfl) ?_
    refine r_u (o_as rfl) ?_
    refine r_nil ?_
    refine x_seq ?_
    refine c_ret ?_
    subst hm5
    refine ex_st (fun _ h => st_pk 3 [1, 2] (by decide) h) ?_
    exact x_r1 rfl (rv_t rfl) (Le.refl _) ⟨_, rfl, rfl, rfl, rfl⟩

def policy_Policy_Kind (a0 : policy_Policy) : Int :=
  a0.kind
theorem policy_Policy_Kind.ok {G R F} (b0_ : Nat) (a0 : policy_Policy) (g0_ : policy_Policy.G) (r : Int) (hm : policy_Policy_Kind a0 = r) : CO Tryz.prog 67 [pt b0_ 0] G R (Bk b0_ 144 [vI a0.kind, g0_.a.1, g0_.t.1] :: rO (arc_Arc.op g0_.a.2) g0_.a.1 a0.a :: rO (tiny_Tiny.op g0_.t.2) g0_.t.1 a0.t :: F)
    (Ret fun u R' L' => u = vI r ∧ R' = R ∧ L' = Bk b0_ 144 [vI a0.kind, g0_.a.1, g0_.t.1] :: rO (arc_Arc.op g0_.a.2) g0_.a.1 a0.a :: rO (tiny_Tiny.op g0_.t.2) g0_.t.1 a0.t :: F) := by
  obtain ⟨⟨pv1, g2⟩, ⟨pv4, g5⟩⟩ := g0_
  unfold policy_Policy_Kind at hm
  refine co_ofN (N := 9) Tryz.func67 rfl rfl ?_
  refine c_seq ?_
  refine c_reg ?_
  refine r_u (o_as rfl) ?_
  refine r_nil ?_
  refine x_seq ?_
  refine c_seq ?_
  refine c_seq ?_
  refine c_reg ?_
  refine r_u (o_mv rfl) ?_
  refine r_u (o_bin rfl rfl (bP_eqp Tryz.underlying93)) ?_
  refine r_nil ?_
  refine x_seq ?_
  refine c_ff rfl ?_
  refine c_skip ?_
  refine x_seq ?_
  refine c_seq ?_
  refine c_reg ?_
  refine r_u (o_mv rfl) ?_
  refine r_u (o_nc rfl) ?_
  refine r_u (o_fa fa144_0 rfl) ?_
  refine r_u (o_ld 0 sc3 rfl rfl rfl) ?_
  refine r_u (o_as rfl) ?_
  refine r_nil ?_
  refine x_seq ?_
  refine c_ret ?_
  subst hm
  exact x_r1 rfl (rv_t rfl) (Le.refl _) ⟨_, rfl, rfl, rfl, rfl⟩

def ring_Rings_In (a0 : ring_Rings) (a1 : Str) : Option (Int × Bool) :=
  if !((mget a0.at_ a1).isSome) then some (0, false) else (gi a0.slots ((mget a0.at_ a1).getD (0 : Int))).bind fun x6 => some (x6.list, true)
theorem ring_Rings_In.ok {G R F} (b0_ : Nat) (a0 : ring_Rings) (g0_ : ring_Rings.G) (a1 : Str) (r : Int × Bool) (hm : ring_Rings_In a0 a1 = some r) : CO Tryz.prog 160 [pt b0_ 0, vS a1] G R (Bk b0_ 237 [vI a0.lists, g0_.slots, g0_.free, g0_.at_, g0_.many] :: OwS true 240 4 ring_slot.c g0_.slots a0.slots :: OwS true 3 1 eI g0_.free a0.free :: OwM vS vI g0_.at_ a0.at_ :: OwS true 3 1 eI g0_.many a0.many :: F)
    (Ret fun u R' L' => u = .tuple #[vI r.1, vB r.2] ∧ R' = R ∧ L' = Bk b0_ 237 [vI a0.lists, g0_.slots, g0_.free, g0_.at_, g0_.many] :: OwS true 240 4 ring_slot.c g0_.slots a0.slots :: OwS true 3 1 eI g0_.free a0.free :: OwM vS vI g0_.at_ a0.at_ :: OwS true 3 1 eI g0_.many a0.many :: F) := by
  unfold ring_Rings_In at hm
  refine co_ofN (N := 29) Tryz.func160 rfl rfl ?_
  refine c_seq ?_
  refine c_reg ?_
  refine r_u (o_as rfl) ?_
  refine r_u (o_as rfl) ?_
  refine r_nil ?_
  refine x_seq ?_
  refine c_seq ?_
  refine c_seq ?_
  refine c_reg ?_
  refine r_u (o_mv rfl) ?_
  refine r_u (o_bin rfl rfl (bP_eqp Tryz.underlying191)) ?_
  refine r_nil ?_
  refine x_seq ?_
  refine c_ff rfl ?_
  refine c_skip ?_
  refine x_seq ?_
  refine c_seq ?_
  refine c_reg ?_
  refine r_u (o_mv rfl) ?_
  refine r_u (o_nc rfl) ?_
  refine r_u (o_fa fa237_3 rfl) ?_
  refine r_u (o_ld 0 sc235 rfl rfl rfl) ?_
  refine r_u (o_mv rfl) ?_
  refine r_u (o_lk (kv := vS) (vv := vI) (key := a1) (z0 := (0 : Int)) 3 Tryz.underlying235 (kok_S Tryz.underlying9) (fun _ => by kernel_rfl) rfl rfl rfl) ?_
  refine r_u (o_mv rfl) ?_
  refine r_u (o_ext rfl rfl) ?_
  refine r_u (o_ext rfl rfl) ?_
  refine r_u (o_as rfl) ?_
  refine r_u (o_as rfl) ?_
  refine r_nil ?_
  refine x_seq ?_
  refine c_seq ?_
  refine c_seq ?_
  refine c_reg ?_
  refine r_u (o_mv rfl) ?_
  refine r_u (o_not rfl) ?_
  refine r_nil ?_
  refine x_seq ?_
  refine c_if (b := !((mget a0.at_ a1).isSome)) rfl (fun h4 => ?_) fun h4 => ?_
  · have hm5 := ift hm h4
    clear hm
    refine c_seq ?_
    refine c_reg ?_
    refine r_u (o_as rfl) ?_
    refine r_u (o_as rfl) ?_
    refine r_nil ?_
    refine x_seq ?_
    refine c_ret ?_
    obtain rfl := Option.some.inj hm5
    exact x_r2 rfl (rv_t rfl) (rv_t rfl) (Le.refl _) ⟨_, rfl, rfl, rfl, rfl⟩
  · have hm5 := iff_ hm h4
    clear hm
    refine c_skip ?_
    refine x_seq ?_
    refine c_seq ?_
    refine c_reg ?_
    refine r_u (o_mv rfl) ?_
    refine r_u (o_nc rfl) ?_
    refine r_u (o_fa fa237_1 rfl) ?_
    refine r_u (o_ld 0 sc233 rfl rfl rfl) ?_
    refine r_u (o_mv rfl) ?_
    obtain ⟨x6, hx6, hm7⟩ := bs hm5
    clear hm5
    refine r_u (o_ixO 1 Tryz.underlying233 (fun _ => by kernel_rfl) rfl rfl rfl hx6) ?_
    refine r_u (o_fa fa240_1 rfl) ?_
    refine r_u (o_ldO 1 1 sc3 rfl rfl hx6 rfl rfl) ?_
    refine r_u (o_as rfl) ?_
    refine r_u (o_as rfl) ?_
    refine r_nil ?_
    refine x_seq ?_
    refine c_ret ?_
    obtain rfl := Option.some.inj hm7
    exact x_r2 rfl (rv_t rfl) (rv_t rfl) (Le.refl _) ⟨_, rfl, rfl, rfl, rfl⟩

def arc_Arc_Has (a0 : arc_Arc) (a1 : Str) : Option Bool :=
  om a0.r (none) fun x3 => (ring_Rings_In x3 a1).bind fun r11 => some (r11.2 && decide (r11.1 ≤ 1))
theorem arc_Arc_Has.ok {G R F} (b0_ : Nat) (a0 : arc_Arc) (g0_ : arc_Arc.G) (a1 : Str) (r : Bool) (hm : arc_Arc_Has a0 a1 = some r) : CO Tryz.prog 116 [pt b0_ 0, vS a1] G R (Bk b0_ 193 [vI a0.most, vI a0.target, g0_.r.1] :: rO (ring_Rings.op g0_.r.2) g0_.r.1 a0.r :: F)
    (Ret fun u R' L' => u = vB r ∧ R' = R ∧ L' = Bk b0_ 193 [vI a0.most, vI a0.target, g0_.r.1] :: rO (ring_Rings.op g0_.r.2) g0_.r.1 a0.r :: F) := by
  obtain ⟨⟨pv1, g2⟩⟩ := g0_
  unfold arc_Arc_Has at hm
  refine co_ofN (N := 23) Tryz.func116 rfl rfl ?_
  refine c_seq ?_
  refine c_reg ?_
  refine r_u (o_as rfl) ?_
  refine r_nil ?_
  refine x_seq ?_
  refine c_seq ?_
  refine c_seq ?_
  refine c_reg ?_
  refine r_u (o_mv rfl) ?_
  refine r_u (o_bin rfl rfl (bP_eqp Tryz.underlying141)) ?_
  refine r_nil ?_
  refine x_seq ?_
  refine c_ff rfl ?_
  refine c_skip ?_
  refine x_seq ?_
  refine c_seq ?_
  refine cd_st (fun _ h => mv1 h) ?_
  refine cd_opt (fun ho5 => ?_) (fun x3 b4 ho5 => ?_)
  · rintro rfl
    have hm6 := om_n hm ho5
    clear hm
    cases hm6
  · rintro rfl
    have hm6 := om_s hm ho5
    clear hm
    refine cd_st (fun _ h => st_star_o h) ?_
    refine c_reg ?_
    refine r_u (o_mv rfl) ?_
    refine r_u (o_nc rfl) ?_
    refine r_u (o_fa fa193_2 rfl) ?_
    refine r_u (o_ld 5 sc191 rfl rfl rfl) ?_
    refine r_u (o_mv rfl) ?_
    obtain ⟨r11, hr11, hm12⟩ := bs hm6
    clear hm6
    refine r_c (s_w (o_call ca160 rfl (ring_Rings_In.ok b4 x3 g2 a1 r11 hr11))) ?_
    refine r_u (o_mv rfl) ?_
    refine r_u (o_ext rfl rfl) ?_
    refine r_u (o_ext rfl rfl) ?_
    refine r_u (o_as rfl) ?_
    refine r_u (o_as rfl) ?_
    refine r_nil ?_
    refine x_seq ?_
    refine c_seq ?_
    refine c_reg ?_
    refine r_u (o_mv rfl) ?_
    refine r_u (o_mv rfl) ?_
    refine r_s (s_gt rfl rfl fun g => o_mv rfl) ?_
    refine r_s (s_gt rfl rfl fun g => o_bin (evg rfl g) rfl (bI_le r11.1 1)) ?_
    refine r_u (o_and rfl rfl) ?_
    refine r_u (o_as rfl) ?_
    refine r_nil ?_
    refine x_seq ?_
    refine c_ret ?_
    refine ex_st (fun _ h => st_some (f := ring_Rings.op g2) (a := x3) (st_star_f (A := ring_Rings.fl b4 x3 g2) h)) ?_
    refine ex_st (fun _ h => st_back ho5 h) ?_
    obtain rfl := Option.some.inj hm12
    refine ex_st (fun _ h => st_pk 2 [1, 0] (by decide) h) ?_
    exact x_r1 rfl (rv_t rfl) (Le.refl _) ⟨_, rfl, rfl, rfl, rfl⟩

def ring_Rings_cut (a0 : ring_Rings) (a1 : Int) : Option ring_Rings :=
  (gi a0.slots a1).bind fun x4 => (gi a0.slots x4.prev).bind fun x6 => (gi (ls a0.slots x4.prev (⟨x6.key, x6.list, x6.prev, x4.next⟩ : ring_slot)) x4.next).bind fun x8 => (gi (ls (ls a0.slots x4.prev (⟨x6.key, x6.list, x6.prev, x4.next⟩ : ring_slot)) x4.next (⟨x8.key, x8.list, x4.prev, x8.next⟩ : ring_slot)) a1).bind fun x10 => (gi a0.many x10.list).bind fun x12 => some (⟨a0.lists, ls (ls a0.slots x4.prev (⟨x6.key, x6.list, x6.prev, x4.next⟩ : ring_slot)) x4.next (⟨x8.key, x8.list, x4.prev, x8.next⟩ : ring_slot), a0.free, a0.at_, ls a0.many x10.list (i64 (x12 - 1))⟩ : ring_Rings)
theorem ring_Rings_cut.ok {G R F} (b0_ : Nat) (a0 : ring_Rings) (g0_ : ring_Rings.G) (a1 : Int) (r : ring_Rings) (hm : ring_Rings_cut a0 a1 = some r) : CO Tryz.prog 161 [pt b0_ 0, vI a1] G R (Bk b0_ 237 [vI a0.lists, g0_.slots, g0_.free, g0_.at_, g0_.many] :: OwS true 240 4 ring_slot.c g0_.slots a0.slots :: OwS true 3 1 eI g0_.free a0.free :: OwM vS vI g0_.at_ a0.at_ :: OwS true 3 1 eI g0_.many a0.many :: F)
    (Ret fun u R' L' => u = .tuple #[] ∧ R' = R ∧ L' = Bk b0_ 237 [vI r.lists, g0_.slots, g0_.free, g0_.at_, g0_.many] :: OwS true 240 4 ring_slot.c g0_.slots r.slots :: OwS true 3 1 eI g0_.free r.free :: OwM vS vI g0_.at_ r.at_ :: OwS true 3 1 eI g0_.many r.many :: F) := by
  unfold ring_Rings_cut at hm
  refine co_ofN (N := 51) Tryz.func161 rfl rfl ?_
  refine c_seq ?_
  refine c_reg ?_
  refine r_u (o_mv rfl) ?_
  refine r_u (o_nc rfl) ?_
  refine r_u (o_fa fa237_1 rfl) ?_
  refine r_u (o_ld 0 sc233 rfl rfl rfl) ?_
  refine r_u (o_mv rfl) ?_
  obtain ⟨x4, hx4, hm5⟩ := bs hm
  clear hm
  refine r_u (o_ixO 1 Tryz.underlying233 (fun _ => by kernel_rfl) rfl rfl rfl hx4) ?_
  refine r_u (o_as rfl) ?_
  refine r_nil ?_
  refine x_seq ?_
  refine c_seq ?_
  obtain ⟨x6, hx6, hm7⟩ := bs hm5
  clear hm5
  obtain ⟨x8, hx8, hm9⟩ := bs hm7
  clear hm7
  refine c_any mixed (effs := [26, 29]) (V := []) ?_
  refine stage_st (fun _ h => mv1 h) ?_
  refine stage_ext [(0, pt b0_ 0), (1, pt b0_ 0), (2, pt b0_ 1), (3, g0_.slots), (4, pt (sb g0_.slots) (so g0_.slots + a1.toNat * 4)), (5, pt (sb g0_.slots) (so g0_.slots + a1.toNat * 4)), (6, pt (sb g0_.slots) (so g0_.slots + a1.toNat * 4 + 2)), (7, vI x4.prev), (8, pt b0_ 0), (9, pt b0_ 0), (10, pt b0_ 1), (11, g0_.slots), (12, pt (sb g0_.slots) (so g0_.slots + a1.toNat * 4)), (13, pt (sb g0_.slots) (so g0_.slots + a1.toNat * 4)), (14, pt (sb g0_.slots) (so g0_.slots + a1.toNat * 4 + 3)), (15, vI x4.next), (16, pt (sb g0_.slots) (so g0_.slots + a1.toNat * 4)), (17, pt (sb g0_.slots) (so g0_.slots + a1.toNat * 4)), (18, pt (sb g0_.slots) (so g0_.slots + a1.toNat * 4 + 3)), (19, vI x4.next), (20, pt (sb g0_.slots) (so g0_.slots + a1.toNat * 4)), (21, pt (sb g0_.slots) (so g0_.slots + a1.toNat * 4)), (22, pt (sb g0_.slots) (so g0_.slots + a1.toNat * 4 + 2)), (23, vI x4.prev), (24, pt (sb g0_.slots) (so g0_.slots + x4.prev.toNat * 4)), (25, pt (sb g0_.slots) (so g0_.slots + x4.prev.toNat * 4 + 3))] rfl ?_
  refine stage rfl rfl rfl rfl [0, 1, 3, 7, 0, 16, 48, 112, 0, 256, 768, 1792, 0, 4096, 12288, 28672, 0, 65536, 196608, 458752, 0, 1048576, 3145728, 7340032, 16777215, 33554431, 67108863, 134217727, 268435455, 536870911] [0, 1, 2, 3, 4, 5, 6, 7, 8, 9, 10, 11, 12, 13, 14, 15, 16, 17, 18, 19, 20, 21, 22, 23, 24, 25] [26] rfl rfl rfl (qc rfl rfl (s_u (o_mv rfl)) (qc rfl rfl (s_u (o_nc rfl)) (qc rfl rfl (s_u (o_fa fa237_1 rfl)) (qc rfl rfl (s_u (o_ld 1 sc233 rfl rfl rfl)) (qc rfl rfl (s_u (o_mv rfl)) (qc rfl rfl (s_u (o_nc rfl)) (qc rfl rfl (s_u (o_fa fa240_2 rfl)) (qc rfl rfl (s_u (o_ldO 0 2 sc3 rfl rfl hx4 rfl rfl)) (qc rfl rfl (s_u (o_mv rfl)) (qc rfl rfl (s_u (o_nc rfl)) (qc rfl rfl (s_u (o_fa fa237_1 rfl)) (qc rfl rfl (s_u (o_ld 1 sc233 rfl rfl rfl)) (qc rfl rfl (s_u (o_mv rfl)) (qc rfl rfl (s_u (o_nc rfl)) (qc rfl rfl (s_u (o_fa fa240_3 rfl)) (qc rfl rfl (s_u (o_ldO 0 3 sc3 rfl rfl hx4 rfl rfl)) (qc rfl rfl (s_u (o_mv rfl)) (qc rfl rfl (s_u (o_nc rfl)) (qc rfl rfl (s_u (o_fa fa240_3 rfl)) (qc rfl rfl (s_u (o_ldO 0 3 sc3 rfl rfl hx4 rfl rfl)) (qc rfl rfl (s_u (o_mv rfl)) (qc rfl rfl (s_u (o_nc rfl)) (qc rfl rfl (s_u (o_fa fa240_2 rfl)) (qc rfl rfl (s_u (o_ldO 0 2 sc3 rfl rfl hx4 rfl rfl)) (qc rfl rfl (s_u (o_ixO 0 Tryz.underlying233 (fun _ => by kernel_rfl) rfl rfl rfl hx6)) (qc rfl rfl (s_u (o_fa fa240_3 rfl)) qn)))))))))))))))))))))))))) ?_ (fun h => absurd h (by decide))
  refine ec (eo_u rfl (s_u (o_stO (c' := (⟨x6.key, x6.list, x6.prev, x4.next⟩ : ring_slot)) 3 sc3 rfl rfl rfl hx6 rfl rfl rfl)) (Le.refl _) ?_) en
  refine stage_ext [(27, pt (sb g0_.slots) (so g0_.slots + x4.next.toNat * 4)), (28, pt (sb g0_.slots) (so g0_.slots + x4.next.toNat * 4 + 2))] rfl ?_
  refine stage rfl rfl rfl rfl [0, 1, 3, 7, 0, 16, 48, 112, 0, 256, 768, 1792, 0, 4096, 12288, 28672, 0, 65536, 196608, 458752, 0, 1048576, 3145728, 7340032, 16777215, 33554431, 67108863, 134217727, 268435455, 536870911] [27, 28] [29] rfl rfl rfl (qc rfl rfl (s_u (o_ixO 0 Tryz.underlying233 (fun _ => by kernel_rfl) rfl rfl rfl hx8)) (qc rfl rfl (s_u (o_fa fa240_2 rfl)) qn)) ?_ (fun h => absurd h (by decide))
  refine ec (eo_u rfl (s_u (o_stO (c' := (⟨x8.key, x8.list, x4.prev, x8.next⟩ : ring_slot)) 2 sc3 rfl rfl rfl hx8 rfl rfl rfl)) (Le.refl _) ?_) en
  refine stage rfl rfl rfl rfl [0, 1, 3, 7, 0, 16, 48, 112, 0, 256, 768, 1792, 0, 4096, 12288, 28672, 0, 65536, 196608, 458752, 0, 1048576, 3145728, 7340032, 16777215, 33554431, 67108863, 134217727, 268435455, 536870911] [] [] rfl rfl rfl qn en ?_
  intro _
  refine ex_sub (E' := [(0, pt b0_ 0), (4, pt (sb g0_.slots) (so g0_.slots + a1.toNat * 4))]) ⟨rfl, rfl, trivial⟩ ?_
  refine x_seq ?_
  obtain ⟨x10, hx10, hm11⟩ := bs hm9
  clear hm9
  obtain ⟨x12, hx12, hm13⟩ := bs hm11
  clear hm11
  refine c_any mixed (effs := [12]) (V := []) ?_
  refine stage_st (fun _ h => mv4 h) ?_
  refine stage_ext [(0, pt b0_ 0), (1, pt b0_ 0), (2, pt b0_ 4), (3, g0_.many), (4, pt (sb g0_.slots) (so g0_.slots + a1.toNat * 4)), (5, pt (sb g0_.slots) (so g0_.slots + a1.toNat * 4)), (6, pt (sb g0_.slots) (so g0_.slots + a1.toNat * 4 + 1)), (7, vI x10.list), (8, pt (sb g0_.many) (so g0_.many + x10.list.toNat * 1)), (9, vI x12), (10, vI (i64 (x12 - 1))), (11, pt (sb g0_.many) (so g0_.many + x10.list.toNat * 1))] rfl ?_
  refine stage rfl rfl rfl rfl [0, 1, 3, 7, 0, 16, 48, 112, 255, 511, 1023, 2047, 4095] [0, 1, 2, 3, 4, 5, 6, 7, 8, 9, 10, 11] [12] rfl rfl rfl (qc rfl rfl (s_u (o_mv rfl)) (qc rfl rfl (s_u (o_nc rfl)) (qc rfl rfl (s_u (o_fa fa237_4 rfl)) (qc rfl rfl (s_u (o_ld 2 sc234 rfl rfl rfl)) (qc rfl rfl (s_u (o_mv rfl)) (qc rfl rfl (s_u (o_nc rfl)) (qc rfl rfl (s_u (o_fa fa240_1 rfl)) (qc rfl rfl (s_u (o_ldO 1 1 sc3 rfl rfl hx10 rfl rfl)) (qc rfl rfl (s_u (o_ixO 0 Tryz.underlying234 (fun _ => by kernel_rfl) rfl rfl rfl hx12)) (qc rfl rfl (s_u (o_ldO0 0 sc3 rfl rfl hx12 rfl rfl)) (qc rfl rfl (s_u (o_bin rfl rfl (bI_sub x12 1))) (qc rfl rfl (s_u (o_ixO 0 Tryz.underlying234 (fun _ => by kernel_rfl) rfl rfl rfl hx12)) qn)))))))))))) ?_ (fun h => absurd h (by decide))
  refine ec (eo_u rfl (s_u (o_stO0 (c' := i64 (x12 - 1)) sc3 rfl rfl rfl hx12 rfl rfl rfl)) (Le.refl _) ?_) en
  refine stage rfl rfl rfl rfl [0, 1, 3, 7, 0, 16, 48, 112, 255, 511, 1023, 2047, 4095] [] [] rfl rfl rfl qn en ?_
  intro _
  refine ex_sub (E' := []) trivial ?_
  refine x_end ?_
  obtain rfl := Option.some.inj hm13
  refine ex_st (fun _ h => st_pk 5 [2, 1, 3, 4, 0] (by decide) h) ?_
  exact x_r0 rfl (Le.refl _) ⟨_, rfl, rfl, rfl, rfl⟩

def ring_Rings_Drop (a0 : ring_Rings) (a1 : Str) : Option (Bool × ring_Rings) :=
  if (mget a0.at_ a1).isSome then (ring_Rings_cut a0 ((mget a0.at_ a1).getD (0 : Int))).bind fun r6 => (gi r6.slots ((mget a0.at_ a1).getD (0 : Int))).bind fun x8 => (apd 8 r6.free [((mget a0.at_ a1).getD (0 : Int))]).bind fun l12 => some ((mget a0.at_ a1).isSome, (⟨r6.lists, ls r6.slots ((mget a0.at_ a1).getD (0 : Int)) (⟨[], 0, 0, 0⟩ : ring_slot), l12, mdel r6.at_ a1, r6.many⟩ : ring_Rings)) else some ((mget a0.at_ a1).isSome, a0)
theorem ring_Rings_Drop.ok {G R F} (b0_ : Nat) (a0 : ring_Rings) (g0_ : ring_Rings.G) (a1 : Str) (r : Bool × ring_Rings) (hm : ring_Rings_Drop a0 a1 = some r) : CO Tryz.prog 117 [pt b0_ 0, vS a1] G R (Bk b0_ 237 [vI a0.lists, g0_.slots, g0_.free, g0_.at_, g0_.many] :: OwS true 240 4 ring_slot.c g0_.slots a0.slots :: OwS true 3 1 eI g0_.free a0.free :: OwM vS vI g0_.at_ a0.at_ :: OwS true 3 1 eI g0_.many a0.many :: F)
    (Ret fun u R' L' => ∃ (q0 : ring_Rings.G), u = vB r.1 ∧ R' = R ∧ L' = Bk b0_ 237 [vI r.2.lists, q0.slots, q0.free, q0.at_, q0.many] :: OwS true 240 4 ring_slot.c q0.slots r.2.slots :: OwS true 3 1 eI q0.free r.2.free :: OwM vS vI q0.at_ r.2.at_ :: OwS true 3 1 eI q0.many r.2.many :: F) := by
  unfold ring_Rings_Drop at hm
  refine co_ofN (N := 45) Tryz.func117 rfl rfl ?_
  refine c_seq ?_
  refine c_reg ?_
  refine r_u (o_as rfl) ?_
  refine r_nil ?_
  refine x_seq ?_
  refine c_seq ?_
  refine c_seq ?_
  refine c_reg ?_
  refine r_u (o_mv rfl) ?_
  refine r_u (o_bin rfl rfl (bP_eqp Tryz.underlying191)) ?_
  refine r_nil ?_
  refine x_seq ?_
  refine c_ff rfl ?_
  refine c_skip ?_
  refine x_seq ?_
  refine c_seq ?_
  refine c_reg ?_
  refine r_u (o_mv rfl) ?_
  refine r_u (o_nc rfl) ?_
  refine r_u (o_fa fa237_3 rfl) ?_
  refine r_u (o_ld 0 sc235 rfl rfl rfl) ?_
  refine r_u (o_mv rfl) ?_
  refine r_u (o_lk (kv := vS) (vv := vI) (key := a1) (z0 := (0 : Int)) 3 Tryz.underlying235 (kok_S Tryz.underlying9) (fun _ => by kernel_rfl) rfl rfl rfl) ?_
  refine r_u (o_mv rfl) ?_
  refine r_u (o_ext rfl rfl) ?_
  refine r_u (o_ext rfl rfl) ?_
  refine r_u (o_as rfl) ?_
  refine r_u (o_as rfl) ?_
  refine r_nil ?_
  refine x_seq ?_
  refine c_seq ?_
  refine c_seq ?_
  refine c_reg ?_
  refine r_u (o_mv rfl) ?_
  refine r_nil ?_
  refine x_seq ?_
  refine c_if (b := (mget a0.at_ a1).isSome) rfl (fun h4 => ?_) fun h4 => ?_
  · have hm5 := ift hm h4
    clear hm
    refine c_seq ?_
    refine c_reg ?_
    refine r_u (o_mv rfl) ?_
    refine r_u (o_mv rfl) ?_
    obtain ⟨r6, hr6, hm7⟩ := bs hm5
    clear hm5
    refine r_c (s_w (o_call ca161 rfl (ring_Rings_cut.ok b0_ a0 g0_ ((mget a0.at_ a1).getD (0 : Int)) r6 hr6))) ?_
    refine r_nil ?_
    refine x_seq ?_
    refine c_seq ?_
    refine c_reg ?_
    refine r_u (o_mv rfl) ?_
    refine r_u (o_nc rfl) ?_
    refine r_u (o_fa fa237_3 rfl) ?_
    refine r_u (o_ld 0 sc235 rfl rfl rfl) ?_
    refine r_u (o_mv rfl) ?_
    refine rl_st (fun _ h => mv3 h) ?_
    refine r_u0 (o_del (kv := vS) (vv := vI) (key := a1) Tryz.underlying235 (kok_S Tryz.underlying9) rfl rfl rfl rfl) ?_
    refine r_nil ?_
    refine x_seq ?_
    refine c_seq ?_
    refine c_reg ?_
    refine r_u (o_mv rfl) ?_
    refine r_u (o_nc rfl) ?_
    refine r_u (o_fa fa237_1 rfl) ?_
    refine r_u (o_ld 1 sc233 rfl rfl rfl) ?_
    refine r_u (o_mv rfl) ?_
    refine r_u (o_bld [vS [], vI 0, vI 0, vI 0] rfl (fun _ => by kernel_rfl)) ?_
    obtain ⟨x8, hx8, hm9⟩ := bs hm7
    clear hm7
    refine r_u (o_ixO 2 Tryz.underlying233 (fun _ => by kernel_rfl) rfl rfl rfl hx8) ?_
    refine rl_st (fun _ h => mv2 h) ?_
    refine r_u0 (o_stnO (c' := (⟨[], 0, 0, 0⟩ : ring_slot)) ag240 rfl rfl rfl hx8 rfl rfl rfl) ?_
    refine r_nil ?_
    refine x_seq ?_
    refine c_reg ?_
    refine r_u (o_mv rfl) ?_
    refine r_u (o_mv rfl) ?_
    refine r_u (o_nc rfl) ?_
    refine r_u (o_fa fa237_2 rfl) ?_
    refine r_u (o_ld 2 sc234 rfl rfl rfl) ?_
    refine r_u (o_mv rfl) ?_
    refine r_sw (s_w (o_bsl (en := eI) (sz := 1) (e := 3) (cs := [vI ((mget a0.at_ a1).getD (0 : Int))]) (r := [((mget a0.at_ a1).getD (0 : Int))]) rfl (fun _ => by kernel_rfl) rfl (by decide) rfl (fun _ => rfl))) ?_
    rintro v10 R _ _ ⟨rfl, rfl⟩
    obtain ⟨l12, hl12, hm13⟩ := bs hm9
    clear hm9
    refine rl_st (fun _ h => mv4 h) ?_
    refine r_sw (s_w (o_ap (sz := 1) (bytes := 8) 0 Tryz.underlying234 rfl rfl rfl rfl rfl (by decide) (by decide) (fun _ _ _ h => by simp at h; subst h; rfl) (fun _ => rfl) rfl rfl rfl rfl (Nat.succ_pos _) hl12)) ?_
    rintro v11 R _ _ ⟨rfl, rfl⟩
    refine r_u (o_nc rfl) ?_
    refine r_u (o_fa fa237_2 rfl) ?_
    refine rl_st (fun _ h => mv4 h) ?_
    refine r_u0 (ou_if (one_o 1 rfl) fun ho0 => o_st sc234 rfl rfl rfl ho0 rfl rfl) ?_
    refine r_nil ?_
    refine x_seq ?_
    refine c_seq ?_
    refine c_reg ?_
    refine r_u (o_mv rfl) ?_
    refine r_u (o_as rfl) ?_
    refine r_nil ?_
    refine x_seq ?_
    refine c_ret ?_
    obtain rfl := Option.some.inj hm13
    refine ex_st (fun _ h => st_pk 6 [0, 3, 1, 4, 5] (by decide) h) ?_
    exact x_r1 rfl (rv_t rfl) (Le.refl _) ⟨_, rfl, (⟨g0_.slots, v11, g0_.at_, g0_.many⟩ : ring_Rings.G), rfl, rfl, rfl⟩
  · have hm5 := iff_ hm h4
    clear hm
    refine c_skip ?_
    refine x_seq ?_
    refine c_seq ?_
    refine c_reg ?_
    refine r_u (o_mv rfl) ?_
    refine r_u (o_as rfl) ?_
    refine r_nil ?_
    refine x_seq ?_
    refine c_ret ?_
    obtain rfl := Option.some.inj hm5
    exact x_r1 rfl (rv_t rfl) (Le.refl _) ⟨_, rfl, g0_, rfl, rfl, rfl⟩

def arc_Arc_Remove (a0 : arc_Arc) (a1 : Str) : Option (Bool × arc_Arc) :=
  (arc_Arc_Has a0 a1).bind fun r3 => om a0.r (none) fun x5 => (ring_Rings_Drop x5 a1).bind fun r13 => some (r3, (⟨a0.most, a0.target, (some r13.2)⟩ : arc_Arc))
theorem arc_Arc_Remove.ok {G R F} (b0_ : Nat) (a0 : arc_Arc) (g0_ : arc_Arc.G) (a1 : Str) (r : Bool × arc_Arc) (hm : arc_Arc_Remove a0 a1 = some r) : CO Tryz.prog 68 [pt b0_ 0, vS a1] G R (Bk b0_ 193 [vI a0.most, vI a0.target, g0_.r.1] :: rO (ring_Rings.op g0_.r.2) g0_.r.1 a0.r :: F)
    (Ret fun u R' L' => ∃ (q0 : arc_Arc.G), u = vB r.1 ∧ R' = R ∧ L' = Bk b0_ 193 [vI r.2.most, vI r.2.target, q0.r.1] :: rO (ring_Rings.op q0.r.2) q0.r.1 r.2.r :: F) := by
  obtain ⟨⟨pv1, g2⟩⟩ := g0_
  unfold arc_Arc_Remove at hm
  refine co_ofN (N := 18) Tryz.func68 rfl rfl ?_
  refine c_seq ?_
  refine c_reg ?_
  refine r_u (o_as rfl) ?_
  refine r_nil ?_
  refine x_seq ?_
  refine c_seq ?_
  refine c_reg ?_
  refine r_u (o_mv rfl) ?_
  refine r_u (o_mv rfl) ?_
  obtain ⟨r3, hr3, hm4⟩ := bs hm
  clear hm
  refine r_c (s_w (o_call ca116 rfl (arc_Arc_Has.ok b0_ a0 (⟨(pv1, g2)⟩ : arc_Arc.G) a1 r3 hr3))) ?_
  refine r_u (o_as rfl) ?_
  refine r_nil ?_
  refine x_seq ?_
  refine c_seq ?_
  refine c_seq ?_
  refine c_reg ?_
  refine r_u (o_mv rfl) ?_
  refine r_u (o_bin rfl rfl (bP_nep Tryz.underlying141)) ?_
  refine r_nil ?_
  refine x_seq ?_
  refine c_tt rfl ?_
  refine cd_st (fun _ h => mv1 h) ?_
  refine cd_opt (fun ho7 => ?_) (fun x5 b6 ho7 => ?_)
  · rintro rfl
    have hm8 := om_n hm4 ho7
    clear hm4
    cases hm8
  · rintro rfl
    have hm8 := om_s hm4 ho7
    clear hm4
    refine cd_st (fun _ h => st_star_o h) ?_
    refine c_reg ?_
    refine r_u (o_mv rfl) ?_
    refine r_u (o_nc rfl) ?_
    refine r_u (o_fa fa193_2 rfl) ?_
    refine r_u (o_ld 5 sc191 rfl rfl rfl) ?_
    refine r_u (o_mv rfl) ?_
    obtain ⟨r13, hr13, hm19⟩ := bs hm8
    clear hm8
    refine r_sw (s_w (o_call ca117 rfl (ring_Rings_Drop.ok b6 x5 g2 a1 r13 hr13))) ?_
    rintro _ R _ _ ⟨g14, rfl, rfl, rfl⟩
    refine r_nil ?_
    refine x_seq ?_
    refine c_seq ?_
    refine c_reg ?_
    refine r_u (o_mv rfl) ?_
    refine r_u (o_as rfl) ?_
    refine r_nil ?_
    refine x_seq ?_
    refine c_ret ?_
    refine ex_st (fun _ h => st_some (f := ring_Rings.op g14) (a := r13.2) (st_star_f (A := ring_Rings.fl b6 r13.2 g14) h)) ?_
    obtain rfl := Option.some.inj hm19
    refine ex_st (fun _ h => st_pk 2 [1, 0] (by decide) h) ?_
    exact x_r1 rfl (rv_t rfl) (Le.refl _) ⟨_, rfl, (⟨(pt b6 0, g14)⟩ : arc_Arc.G), rfl, rfl, rfl⟩

def tiny_Tiny_Remove (a0 : tiny_Tiny) (a1 : Str) : Option (Bool × tiny_Tiny) :=
  om a0.r (none) fun x6 => (ring_Rings_Drop x6 a1).bind fun r14 => some (r14.1, (⟨a0.most, a0.s, (some r14.2)⟩ : tiny_Tiny))
theorem tiny_Tiny_Remove.ok {G R F} (b0_ : Nat) (a0 : tiny_Tiny) (g0_ : tiny_Tiny.G) (a1 : Str) (r : Bool × tiny_Tiny) (hm : tiny_Tiny_Remove a0 a1 = some r) : CO Tryz.prog 69 [pt b0_ 0, vS a1] G R (Bk b0_ 196 [vI a0.most, g0_.s.1, g0_.r.1] :: rO (sketch_Sketch.op g0_.s.2) g0_.s.1 a0.s :: rO (ring_Rings.op g0_.r.2) g0_.r.1 a0.r :: F)
    (Ret fun u R' L' => ∃ (q0 : tiny_Tiny.G), u = vB r.1 ∧ R' = R ∧ L' = Bk b0_ 196 [vI r.2.most, q0.s.1, q0.r.1] :: rO (sketch_Sketch.op q0.s.2) q0.s.1 r.2.s :: rO (ring_Rings.op q0.r.2) q0.r.1 r.2.r :: F) := by
  obtain ⟨⟨pv1, g2⟩, ⟨pv4, g5⟩⟩ := g0_
  unfold tiny_Tiny_Remove at hm
  refine co_ofN (N := 15) Tryz.func69 rfl rfl ?_
  refine c_seq ?_
  refine c_reg ?_
  refine r_u (o_as rfl) ?_
  refine r_nil ?_
  refine x_seq ?_
  refine c_seq ?_
  refine cd_st (fun _ h => mv2 h) ?_
  refine cd_opt (fun ho8 => ?_) (fun x6 b7 ho8 => ?_)
  · rintro rfl
    have hm9 := om_n hm ho8
    clear hm
    cases hm9
  · rintro rfl
    have hm9 := om_s hm ho8
    clear hm
    refine cd_st (fun _ h => st_star_o h) ?_
    refine c_reg ?_
    refine r_u (o_mv rfl) ?_
    refine r_u (o_bin rfl rfl (bP_nep Tryz.underlying142)) ?_
    refine r_u (o_mv rfl) ?_
    refine r_s (s_y rfl rfl rfl (o_mv rfl)) ?_
    refine r_s (s_y rfl rfl rfl (o_nc rfl)) ?_
    refine r_s (s_y rfl rfl rfl (o_fa fa196_2 rfl)) ?_
    refine r_s (s_y rfl rfl rfl (o_ld 5 sc191 rfl rfl rfl)) ?_
    refine r_s (s_y rfl rfl rfl (o_mv rfl)) ?_
    obtain ⟨r14, hr14, hm20⟩ := bs hm9
    clear hm9
    refine r_sw (s_yw rfl rfl rfl (o_call ca117 rfl (ring_Rings_Drop.ok b7 x6 g5 a1 r14 hr14))) ?_
    rintro _ R _ _ ⟨g15, rfl, rfl, rfl⟩
    refine r_u (o_pt rfl rfl rfl) ?_
    refine r_u (o_as rfl) ?_
    refine r_nil ?_
    refine x_seq ?_
    refine c_ret ?_
    refine ex_st (fun _ h => st_some (f := ring_Rings.op g15) (a := r14.2) (st_star_f (A := ring_Rings.fl b7 r14.2 g15) h)) ?_
    obtain rfl := Option.some.inj hm20
    refine ex_st (fun _ h => st_pk 3 [1, 2, 0] (by decide) h) ?_
    exact x_r1 rfl (rv_t rfl) (Le.refl _) ⟨_, rfl, (⟨(pv1, g2), (pt b7 0, g15)⟩ : tiny_Tiny.G), rfl, rfl, rfl⟩

def policy_Policy_Remove (a0 : policy_Policy) (a1 : Str) : Option (Bool × policy_Policy) :=
  if ((policy_Policy_Kind a0) == 1) then om a0.a (none) fun x8 => (arc_Arc_Remove x8 a1).bind fun r15 => some (r15.1, (⟨a0.kind, (some r15.2), a0.t⟩ : policy_Policy)) else if ((policy_Policy_Kind a0) == 2) then om a0.t (none) fun x23 => (tiny_Tiny_Remove x23 a1).bind fun r33 => some (r33.1, (⟨a0.kind, a0.a, (some r33.2)⟩ : policy_Policy)) else some (false, a0)
theorem policy_Policy_Remove.ok {G R F} (b0_ : Nat) (a0 : policy_Policy) (g0_ : policy_Policy.G) (a1 : Str) (r : Bool × policy_Policy) (hm : policy_Policy_Remove a0 a1 = some r) : CO Tryz.prog 37 [pt b0_ 0, vS a1] G R (Bk b0_ 144 [vI a0.kind, g0_.a.1, g0_.t.1] :: rO (arc_Arc.op g0_.a.2) g0_.a.1 a0.a :: rO (tiny_Tiny.op g0_.t.2) g0_.t.1 a0.t :: F)
    (Ret fun u R' L' => ∃ (q0 : policy_Policy.G), u = vB r.1 ∧ R' = R ∧ L' = Bk b0_ 144 [vI r.2.kind, q0.a.1, q0.t.1] :: rO (arc_Arc.op q0.a.2) q0.a.1 r.2.a :: rO (tiny_Tiny.op q0.t.2) q0.t.1 r.2.t :: F) := by
  obtain ⟨⟨pv1, g2⟩, ⟨pv4, g5⟩⟩ := g0_
  unfold policy_Policy_Remove at hm
  refine co_ofN (N := 23) Tryz.func37 rfl rfl ?_
  refine c_seq ?_
  refine c_reg ?_
  refine r_u (o_as rfl) ?_
  refine r_nil ?_
  refine x_seq ?_
  refine c_seq ?_
  refine c_seq ?_
  refine c_reg ?_
  refine r_u (o_mv rfl) ?_
  refine r_c (s_w (o_call ca67 rfl (policy_Policy_Kind.ok b0_ a0 (⟨(pv1, g2), (pv4, g5)⟩ : policy_Policy.G) _ rfl))) ?_
  refine r_nil ?_
  refine x_seq ?_
  refine c_blk ?_
  refine c_seq ?_
  refine c_reg ?_
  refine r_u (o_bin rfl rfl (bI_eq (policy_Policy_Kind a0) 1)) ?_
  refine r_u (o_as rfl) ?_
  refine r_nil ?_
  refine x_seq ?_
  refine c_if (b := ((policy_Policy_Kind a0) == 1)) rfl (fun h6 => ?_) fun h6 => ?_
  · have hm7 := ift hm h6
    clear hm
    refine c_seq ?_
    refine cd_st (fun _ h => mv1 h) ?_
    refine cd_opt (fun ho10 => ?_) (fun x8 b9 ho10 => ?_)
    · rintro rfl
      have hm11 := om_n hm7 ho10
      clear hm7
      cases hm11
    · rintro rfl
      have hm11 := om_s hm7 ho10
      clear hm7
      obtain ⟨⟨pv13, g14⟩⟩ := g2
      refine cd_st (fun _ h => st_star_o h) ?_
      refine c_reg ?_
      refine r_u (o_mv rfl) ?_
      refine r_u (o_nc rfl) ?_
      refine r_u (o_fa fa144_1 rfl) ?_
      refine r_u (o_ld 2 sc141 rfl rfl rfl) ?_
      refine r_u (o_mv rfl) ?_
      obtain ⟨r15, hr15, hm20⟩ := bs hm11
      clear hm11
      refine r_sw (s_w (o_call ca68 rfl (arc_Arc_Remove.ok b9 x8 (⟨(pv13, g14)⟩ : arc_Arc.G) a1 r15 hr15))) ?_
      rintro _ R _ _ ⟨⟨⟨pv18, g19⟩⟩, rfl, rfl, rfl⟩
      refine r_u (o_as rfl) ?_
      refine r_nil ?_
      refine x_seq ?_
      refine c_ret ?_
      refine ex_st (fun _ h => st_some (f := arc_Arc.op (⟨(pv18, g19)⟩ : arc_Arc.G)) (a := r15.2) (st_star_f (A := arc_Arc.fl b9 r15.2 (⟨(pv18, g19)⟩ : arc_Arc.G)) h)) ?_
      obtain rfl := Option.some.inj hm20
      refine ex_st (fun _ h => st_pk 3 [1, 0, 2] (by decide) h) ?_
      exact x_r1 rfl (rv_t rfl) (Le.refl _) ⟨_, rfl, (⟨(pt b9 0, (⟨(pv18, g19)⟩ : arc_Arc.G)), (pv4, g5)⟩ : policy_Policy.G), rfl, rfl, rfl⟩
  · have hm7 := iff_ hm h6
    clear hm
    refine c_seq ?_
    refine c_reg ?_
    refine r_u (o_bin rfl rfl (bI_eq (policy_Policy_Kind a0) 2)) ?_
    refine r_u (o_as rfl) ?_
    refine r_nil ?_
    refine x_seq ?_
    refine c_if (b := ((policy_Policy_Kind a0) == 2)) rfl (fun h21 => ?_) fun h21 => ?_
    · have hm22 := ift hm7 h21
      clear hm7
      refine c_seq ?_
      refine cd_st (fun _ h => mv2 h) ?_
      refine cd_opt (fun ho25 => ?_) (fun x23 b24 ho25 => ?_)
      · rintro rfl
        have hm26 := om_n hm22 ho25
        clear hm22
        cases hm26
      · rintro rfl
        have hm26 := om_s hm22 ho25
        clear hm22
        obtain ⟨⟨pv28, g29⟩, ⟨pv31, g32⟩⟩ := g5
        refine cd_st (fun _ h => st_star_o h) ?_
        refine c_reg ?_
        refine r_u (o_mv rfl) ?_
        refine r_u (o_nc rfl) ?_
        refine r_u (o_fa fa144_2 rfl) ?_
        refine r_u (o_ld 3 sc142 rfl rfl rfl) ?_
        refine r_u (o_mv rfl) ?_
        obtain ⟨r33, hr33, hm41⟩ := bs hm26
        clear hm26
        refine r_sw (s_w (o_call ca69 rfl (tiny_Tiny_Remove.ok b24 x23 (⟨(pv28, g29), (pv31, g32)⟩ : tiny_Tiny.G) a1 r33 hr33))) ?_
        rintro _ R _ _ ⟨⟨⟨pv36, g37⟩, ⟨pv39, g40⟩⟩, rfl, rfl, rfl⟩
        refine r_u (o_as rfl) ?_
        refine r_nil ?_
        refine x_seq ?_
        refine c_ret ?_
        refine ex_st (fun _ h => st_some (f := tiny_Tiny.op (⟨(pv36, g37), (pv39, g40)⟩ : tiny_Tiny.G)) (a := r33.2) (st_star_f (A := tiny_Tiny.fl b24 r33.2 (⟨(pv36, g37), (pv39, g40)⟩ : tiny_Tiny.G)) h)) ?_
        obtain rfl := Option.some.inj hm41
        refine ex_st (fun _ h => st_pk 3 [1, 2, 0] (by decide) h) ?_
        exact x_r1 rfl (rv_t rfl) (Le.refl _) ⟨_, rfl, (⟨(pv1, g2), (pt b24 0, (⟨(pv36, g37), (pv39, g40)⟩ : tiny_Tiny.G))⟩ : policy_Policy.G), rfl, rfl, rfl⟩
    · have hm22 := iff_ hm7 h21
      clear hm7
      refine c_skip ?_
      refine x_blk ?_
      refine x_seq ?_
      refine c_seq ?_
      refine c_reg ?_
      refine r_u (o_as rfl) ?_
      refine r_nil ?_
      refine x_seq ?_
      refine c_ret ?_
      obtain rfl := Option.some.inj hm22
      exact x_r1 rfl (rv_t rfl) (Le.refl _) ⟨_, rfl, (⟨(pv1, g2), (pv4, g5)⟩ : policy_Policy.G), rfl, rfl, rfl⟩

def tiny_Tiny_Has (a0 : tiny_Tiny) (a1 : Str) : Option Bool :=
  om a0.r (none) fun x6 => (ring_Rings_In x6 a1).bind fun r14 => some r14.2
theorem tiny_Tiny_Has.ok {G R F} (b0_ : Nat) (a0 : tiny_Tiny) (g0_ : tiny_Tiny.G) (a1 : Str) (r : Bool) (hm : tiny_Tiny_Has a0 a1 = some r) : CO Tryz.prog 118 [pt b0_ 0, vS a1] G R (Bk b0_ 196 [vI a0.most, g0_.s.1, g0_.r.1] :: rO (sketch_Sketch.op g0_.s.2) g0_.s.1 a0.s :: rO (ring_Rings.op g0_.r.2) g0_.r.1 a0.r :: F)
    (Ret fun u R' L' => u = vB r ∧ R' = R ∧ L' = Bk b0_ 196 [vI a0.most, g0_.s.1, g0_.r.1] :: rO (sketch_Sketch.op g0_.s.2) g0_.s.1 a0.s :: rO (ring_Rings.op g0_.r.2) g0_.r.1 a0.r :: F) := by
  obtain ⟨⟨pv1, g2⟩, ⟨pv4, g5⟩⟩ := g0_
  unfold tiny_Tiny_Has at hm
  refine co_ofN (N := 19) Tryz.func118 rfl rfl ?_
  refine c_seq ?_
  refine c_reg ?_
  refine r_u (o_as rfl) ?_
  refine r_nil ?_
  refine x_seq ?_
  refine c_seq ?_
  refine c_seq ?_
  refine c_reg ?_
  refine r_u (o_mv rfl) ?_
  refine r_u (o_bin rfl rfl (bP_eqp Tryz.underlying142)) ?_
  refine r_nil ?_
  refine x_seq ?_
  refine c_ff rfl ?_
  refine c_skip ?_
  refine x_seq ?_
  refine c_seq ?_
  refine cd_st (fun _ h => mv2 h) ?_
  refine cd_opt (fun ho8 => ?_) (fun x6 b7 ho8 => ?_)
  · rintro rfl
    have hm9 := om_n hm ho8
    clear hm
    cases hm9
  · rintro rfl
    have hm9 := om_s hm ho8
    clear hm
    refine cd_st (fun _ h => st_star_o h) ?_
    refine c_reg ?_
    refine r_u (o_mv rfl) ?_
    refine r_u (o_nc rfl) ?_
    refine r_u (o_fa fa196_2 rfl) ?_
    refine r_u (o_ld 5 sc191 rfl rfl rfl) ?_
    refine r_u (o_mv rfl) ?_
    obtain ⟨r14, hr14, hm15⟩ := bs hm9
    clear hm9
    refine r_c (s_w (o_call ca160 rfl (ring_Rings_In.ok b7 x6 g5 a1 r14 hr14))) ?_
    refine r_u (o_mv rfl) ?_
    refine r_u (o_ext rfl rfl) ?_
    refine r_u (o_ext rfl rfl) ?_
    refine r_u (o_as rfl) ?_
    refine r_u (o_as rfl) ?_
    refine r_nil ?_
    refine x_seq ?_
    refine c_seq ?_
    refine c_reg ?_
    refine r_u (o_mv rfl) ?_
    refine r_u (o_as rfl) ?_
    refine r_nil ?_
    refine x_seq ?_
    refine c_ret ?_
    refine ex_st (fun _ h => st_some (f := ring_Rings.op g5) (a := x6) (st_star_f (A := ring_Rings.fl b7 x6 g5) h)) ?_
    refine ex_st (fun _ h => st_back ho8 h) ?_
    obtain rfl := Option.some.inj hm15
    refine ex_st (fun _ h => st_pk 3 [1, 2, 0] (by decide) h) ?_
    exact x_r1 rfl (rv_t rfl) (Le.refl _) ⟨_, rfl, rfl, rfl, rfl⟩

def bits_RotateLeft64 (a0 : UInt64) (a1 : Int) : UInt64 :=
  (shWl a0 (((toW a1) &&& 63).toNat : Int)) ||| (shWr a0 ((64 - ((toW a1) &&& 63)).toNat : Int))
theorem bits_RotateLeft64.ok {G R F} (a0 : UInt64) (a1 : Int) (r : UInt64) (hm : bits_RotateLeft64 a0 a1 = r) : CO Tryz.prog 253 [vW a0, vI a1] G R (F)
    (Ret fun u R' L' => u = vW r ∧ R' = R ∧ L' = F) := by
  unfold bits_RotateLeft64 at hm
  refine co_ofN (N := 17) Tryz.func253 rfl rfl ?_
  refine c_seq ?_
  refine c_reg ?_
  refine r_u (o_as rfl) ?_
  refine r_nil ?_
  refine x_seq ?_
  refine c_seq ?_
  refine c_reg ?_
  refine r_u (o_mv rfl) ?_
  refine r_u (o_cv rfl (cIW Tryz.underlying3 Tryz.underlying134 a1)) ?_
  refine r_u (o_bin rfl rfl (bW_and (toW a1) 63)) ?_
  refine r_u (o_as rfl) ?_
  refine r_nil ?_
  refine x_seq ?_
  refine c_seq ?_
  refine c_reg ?_
  refine r_u (o_mv rfl) ?_
  refine r_u (o_mv rfl) ?_
  refine r_u (o_bin rfl rfl (bWW_shl a0 ((toW a1) &&& 63))) ?_
  refine r_u (o_mv rfl) ?_
  refine r_u (o_mv rfl) ?_
  refine r_u (o_bin rfl rfl (bW_sub 64 ((toW a1) &&& 63))) ?_
  refine r_u (o_bin rfl rfl (bWW_shr a0 (64 - ((toW a1) &&& 63)))) ?_
  refine r_u (o_bin rfl rfl (bW_or (shWl a0 (((toW a1) &&& 63).toNat : Int)) (shWr a0 ((64 - ((toW a1) &&& 63)).toNat : Int)))) ?_
  refine r_u (o_as rfl) ?_
  refine r_nil ?_
  refine x_seq ?_
  refine c_ret ?_
  subst hm
  exact x_r1 rfl (rv_t rfl) (Le.refl _) ⟨_, rfl, rfl, rfl, rfl⟩

def mix_Mix (a0 : UInt64) : UInt64 :=
  ((bits_RotateLeft64 ((a0 ^^^ (shWr a0 ((32 : UInt64).toNat : Int))) * 11400714819323198485) 29) * 11400714819323198485) ^^^ (shWr ((bits_RotateLeft64 ((a0 ^^^ (shWr a0 ((32 : UInt64).toNat : Int))) * 11400714819323198485) 29) * 11400714819323198485) ((32 : UInt64).toNat : Int))
theorem mix_Mix.ok {G R F} (a0 : UInt64) (r : UInt64) (hm : mix_Mix a0 = r) : CO Tryz.prog 249 [vW a0] G R (F)
    (Ret fun u R' L' => u = vW r ∧ R' = R ∧ L' = F) := by
  unfold mix_Mix at hm
  refine co_ofN (N := 17) Tryz.func249 rfl rfl ?_
  refine c_seq ?_
  refine c_reg ?_
  refine r_u (o_as rfl) ?_
  refine r_nil ?_
  refine x_seq ?_
  refine c_seq ?_
  refine c_reg ?_
  refine r_u (o_mv rfl) ?_
  refine r_u (o_mv rfl) ?_
  refine r_u (o_bin rfl rfl (bWW_shr a0 32)) ?_
  refine r_u (o_bin rfl rfl (bW_xor a0 (shWr a0 ((32 : UInt64).toNat : Int)))) ?_
  refine r_u (o_as rfl) ?_
  refine r_nil ?_
  refine x_seq ?_
  refine c_seq ?_
  refine c_reg ?_
  refine r_u (o_mv rfl) ?_
  refine r_u (o_bin rfl rfl (bW_mul (a0 ^^^ (shWr a0 ((32 : UInt64).toNat : Int))) 11400714819323198485)) ?_
  refine r_u (o_as rfl) ?_
  refine r_nil ?_
  refine x_seq ?_
  refine c_seq ?_
  refine c_reg ?_
  refine r_u (o_mv rfl) ?_
  refine r_u (o_callq ca253 rfl (bits_RotateLeft64.ok ((a0 ^^^ (shWr a0 ((32 : UInt64).toNat : Int))) * 11400714819323198485) 29 _ rfl)) ?_
  refine r_u (o_as rfl) ?_
  refine r_nil ?_
  refine x_seq ?_
  refine c_seq ?_
  refine c_reg ?_
  refine r_u (o_mv rfl) ?_
  refine r_u (o_bin rfl rfl (bW_mul (bits_RotateLeft64 ((a0 ^^^ (shWr a0 ((32 : UInt64).toNat : Int))) * 11400714819323198485) 29) 11400714819323198485)) ?_
  refine r_u (o_as rfl) ?_
  refine r_nil ?_
  refine x_seq ?_
  refine c_seq ?_
  refine c_reg ?_
  refine r_u (o_mv rfl) ?_
  refine r_u (o_mv rfl) ?_
  refine r_u (o_bin rfl rfl (bWW_shr ((bits_RotateLeft64 ((a0 ^^^ (shWr a0 ((32 : UInt64).toNat : Int))) * 11400714819323198485) 29) * 11400714819323198485) 32)) ?_
  refine r_u (o_bin rfl rfl (bW_xor ((bits_RotateLeft64 ((a0 ^^^ (shWr a0 ((32 : UInt64).toNat : Int))) * 11400714819323198485) 29) * 11400714819323198485) (shWr ((bits_RotateLeft64 ((a0 ^^^ (shWr a0 ((32 : UInt64).toNat : Int))) * 11400714819323198485) 29) * 11400714819323198485) ((32 : UInt64).toNat : Int)))) ?_
  refine r_u (o_as rfl) ?_
  refine r_nil ?_
  refine x_seq ?_
  refine c_ret ?_
  subst hm
  exact x_r1 rfl (rv_t rfl) (Le.refl _) ⟨_, rfl, rfl, rfl, rfl⟩

def mix_Of_l0 (a1 : Str) : Nat → UInt64 → Int → Option (UInt64)
  | 0, _, _ => none
  | k9 + 1, h_7, s_8 => if decide (s_8 < (a1.length : Int)) then (gi a1 s_8).bind fun x14 => mix_Of_l0 a1 k9 ((h_7 ^^^ x14.toUInt64) * 1099511628211) (i64 (s_8 + 1)) else some h_7
def mix_Of (a0 : UInt64) (a1 : Str) : Option UInt64 :=
  if a1.length ≤ maxLen then Option.bind (mix_Of_l0 a1 (((a1.length : Int) - 0).toNat + 1) (14695981039346656037 ^^^ (mix_Mix a0)) 0) fun p3 => some (mix_Mix (p3 ^^^ (toW (a1.length : Int)))) else none
theorem mix_Of.ok {G R F} (a0 : UInt64) (a1 : Str) (r : UInt64) (hm : mix_Of a0 a1 = some r) : CO Tryz.prog 240 [vW a0, vS a1] G R (F)
    (Ret fun u R' L' => u = vW r ∧ R' = R ∧ L' = F) := by
  unfold mix_Of at hm
  refine co_ofN (N := 30) Tryz.func240 rfl rfl ?_
  refine c_seq ?_
  refine c_reg ?_
  refine r_u (o_as rfl) ?_
  refine r_nil ?_
  refine x_seq ?_
  refine c_seq ?_
  refine c_reg ?_
  refine r_u (o_mv rfl) ?_
  refine r_u (o_callq ca249 rfl (mix_Mix.ok a0 _ rfl)) ?_
  refine r_u (o_bin rfl rfl (bW_xor 14695981039346656037 (mix_Mix a0))) ?_
  refine r_u (o_as rfl) ?_
  refine r_nil ?_
  refine x_seq ?_
  refine c_seq ?_
  refine c_seq ?_
  refine c_reg ?_
  refine r_u (o_mv rfl) ?_
  obtain ⟨h0, hm2⟩ := ig hm
  clear hm
  refine r_sw (s_w (o_sb Tryz.underlying9 Tryz.underlying131 Tryz.underlying5 rfl h0)) ?_
  rintro v1 R _ _ ⟨rfl, rfl⟩
  refine r_u (o_lenO 0 Tryz.underlying131 rfl rfl) ?_
  refine r_u (o_mv rfl) ?_
  refine r_nil ?_
  refine x_seq ?_
  obtain ⟨p3, hp4, hm5⟩ := bs hm2
  refine cd_join (E' := [(1, vS a1), (5, vW p3)]) (L' := OwS false 5 1 eY v1 a1 :: F) ?_ fun K6 => ?_
  · refine x_seq ?_
    refine c_seq ?_
    refine c_reg ?_
    refine r_u (o_mv rfl) ?_
    refine r_u (o_mv rfl) ?_
    refine r_u (o_lenS Tryz.underlying9 rfl) ?_
    refine r_u (o_cv rfl (cIW Tryz.underlying3 Tryz.underlying22 (a1.length : Int))) ?_
    refine r_u (o_bin rfl rfl (bW_xor p3 (toW (a1.length : Int)))) ?_
    refine r_u (o_callq ca249 rfl (mix_Mix.ok (p3 ^^^ (toW (a1.length : Int))) _ rfl)) ?_
    refine r_u (o_as rfl) ?_
    refine r_nil ?_
    refine x_seq ?_
    refine c_ret ?_
    obtain rfl := Option.some.inj hm5
    refine ex_st (fun _ h => st_pk 1 [] (by decide) h) ?_
    exact x_r1 rfl (rv_t rfl) (Le.refl _) ⟨_, rfl, rfl, rfl, rfl⟩
  · refine c_blk ?_
    refine cd_loop (M := fun k9 (s : UInt64 × Int) => mix_Of_l0 a1 k9 s.1 s.2 = some p3) (Ef := fun (s : UInt64 × Int) => [(1, vS a1), (12, v1), (13, vI (a1.length : Int)), (5, vW s.1), (14, vI s.2)]) (Lf := fun (s : UInt64 × Int) => OwS false 5 1 eY v1 a1 :: F) (((a1.length : Int) - 0).toNat + 1) (14695981039346656037 ^^^ (mix_Mix a0), 0) hp4 ⟨rfl, rfl, rfl, rfl, rfl, trivial⟩ (fun _ h => h) (fun _ h => by cases h) fun k9 s hM11 => ?_
    obtain ⟨h_7, s_8⟩ := s
    have hm10 : mix_Of_l0 a1 (k9 + 1) h_7 s_8 = some p3 := hM11
    rw [mix_Of_l0] at hm10
    refine c_seq ?_
    refine c_reg ?_
    refine r_u (o_bin rfl rfl (bI_lt s_8 (a1.length : Int))) ?_
    refine r_nil ?_
    refine x_seq ?_
    refine c_seq ?_
    refine c_if (b := decide (s_8 < (a1.length : Int))) rfl (fun h12 => ?_) fun h12 => ?_
    · have hm13 := ift hm10 h12
      clear hm10
      refine c_skip ?_
      refine x_seq ?_
      refine c_seq ?_
      refine c_blk ?_
      refine c_seq ?_
      refine c_reg ?_
      obtain ⟨x14, hx14, hm15⟩ := bs hm13
      clear hm13
      refine r_u (o_ixO 0 Tryz.underlying131 (fun _ => by kernel_rfl) rfl rfl rfl hx14) ?_
      refine r_u (o_ldO0 0 sc5 rfl rfl hx14 rfl rfl) ?_
      refine r_u (o_as rfl) ?_
      refine r_nil ?_
      refine x_seq ?_
      refine c_reg ?_
      refine r_u (o_mv rfl) ?_
      refine r_u (o_mv rfl) ?_
      refine r_u (o_cv rfl (cYW Tryz.underlying5 Tryz.underlying22 x14)) ?_
      refine r_u (o_bin rfl rfl (bW_xor h_7 x14.toUInt64)) ?_
      refine r_u (o_bin rfl rfl (bW_mul (h_7 ^^^ x14.toUInt64) 1099511628211)) ?_
      refine r_u (o_as rfl) ?_
      refine r_nil ?_
      refine x_blk ?_
      refine x_seq ?_
      refine c_reg ?_
      refine r_u (o_bin rfl rfl (bI_add s_8 1)) ?_
      refine r_u (o_mv rfl) ?_
      refine r_nil ?_
      exact x_lp ((h_7 ^^^ x14.toUInt64) * 1099511628211, i64 (s_8 + 1)) hm15 ⟨rfl, rfl, rfl, rfl, rfl, trivial⟩ (fun _ h => st_pk 1 [0] (by decide) h)
    · have hm13 := iff_ hm10 h12
      clear hm10
      refine c_exit (x_exit (ks' := _) rfl ?_)
      obtain rfl := Option.some.inj hm13
      exact x_sub K6 ⟨rfl, rfl, trivial⟩ (fun _ h => st_pk 1 [0] (by decide) h)

def bits_Mul64 (a0 : UInt64) (a1 : UInt64) : UInt64 × UInt64 :=
  ((((shWr a0 ((32 : UInt64).toNat : Int)) * (shWr a1 ((32 : UInt64).toNat : Int))) + (shWr (((shWr a0 ((32 : UInt64).toNat : Int)) * (a1 &&& 4294967295)) + (shWr ((a0 &&& 4294967295) * (a1 &&& 4294967295)) ((32 : UInt64).toNat : Int))) ((32 : UInt64).toNat : Int))) + (shWr (((((shWr a0 ((32 : UInt64).toNat : Int)) * (a1 &&& 4294967295)) + (shWr ((a0 &&& 4294967295) * (a1 &&& 4294967295)) ((32 : UInt64).toNat : Int))) &&& 4294967295) + ((a0 &&& 4294967295) * (shWr a1 ((32 : UInt64).toNat : Int)))) ((32 : UInt64).toNat : Int)), a0 * a1)
theorem bits_Mul64.ok {G R F} (a0 : UInt64) (a1 : UInt64) (r : UInt64 × UInt64) (hm : bits_Mul64 a0 a1 = r) : CO Tryz.prog 248 [vW a0, vW a1] G R (F)
    (Ret fun u R' L' => u = .tuple #[vW r.1, vW r.2] ∧ R' = R ∧ L' = F) := by
  unfold bits_Mul64 at hm
  refine co_ofN (N := 51) Tryz.func248 rfl rfl ?_
  refine c_seq ?_
  refine c_reg ?_
  refine r_u (o_as rfl) ?_
  refine r_u (o_as rfl) ?_
  refine r_nil ?_
  refine x_seq ?_
  refine c_seq ?_
  refine c_reg ?_
  refine r_u (o_mv rfl) ?_
  refine r_u (o_bin rfl rfl (bW_and a0 4294967295)) ?_
  refine r_u (o_as rfl) ?_
  refine r_nil ?_
  refine x_seq ?_
  refine c_seq ?_
  refine c_reg ?_
  refine r_u (o_mv rfl) ?_
  refine r_u (o_bin rfl rfl (bWW_shr a0 32)) ?_
  refine r_u (o_as rfl) ?_
  refine r_nil ?_
  refine x_seq ?_
  refine c_seq ?_
  refine c_reg ?_
  refine r_u (o_mv rfl) ?_
  refine r_u (o_bin rfl rfl (bW_and a1 4294967295)) ?_
  refine r_u (o_as rfl) ?_
  refine r_nil ?_
  refine x_seq ?_
  refine c_seq ?_
  refine c_reg ?_
  refine r_u (o_mv rfl) ?_
  refine r_u (o_bin rfl rfl (bWW_shr a1 32)) ?_
  refine r_u (o_as rfl) ?_
  refine r_nil ?_
  refine x_seq ?_
  refine c_seq ?_
  refine c_reg ?_
  refine r_u (o_mv rfl) ?_
  refine r_u (o_mv rfl) ?_
  refine r_u (o_bin rfl rfl (bW_mul (a0 &&& 4294967295) (a1 &&& 4294967295))) ?_
  refine r_u (o_as rfl) ?_
  refine r_nil ?_
  refine x_seq ?_
  refine c_seq ?_
  refine c_reg ?_
  refine r_u (o_mv rfl) ?_
  refine r_u (o_mv rfl) ?_
  refine r_u (o_bin rfl rfl (bW_mul (shWr a0 ((32 : UInt64).toNat : Int)) (a1 &&& 4294967295))) ?_
  refine r_u (o_mv rfl) ?_
  refine r_u (o_bin rfl rfl (bWW_shr ((a0 &&& 4294967295) * (a1 &&& 4294967295)) 32)) ?_
  refine r_u (o_bin rfl rfl (bW_add ((shWr a0 ((32 : UInt64).toNat : Int)) * (a1 &&& 4294967295)) (shWr ((a0 &&& 4294967295) * (a1 &&& 4294967295)) ((32 : UInt64).toNat : Int)))) ?_
  refine r_u (o_as rfl) ?_
  refine r_nil ?_
  refine x_seq ?_
  refine c_seq ?_
  refine c_reg ?_
  refine r_u (o_mv rfl) ?_
  refine r_u (o_bin rfl rfl (bW_and (((shWr a0 ((32 : UInt64).toNat : Int)) * (a1 &&& 4294967295)) + (shWr ((a0 &&& 4294967295) * (a1 &&& 4294967295)) ((32 : UInt64).toNat : Int))) 4294967295)) ?_
  refine r_u (o_as rfl) ?_
  refine r_nil ?_
  refine x_seq ?_
  refine c_seq ?_
  refine c_reg ?_
  refine r_u (o_mv rfl) ?_
  refine r_u (o_bin rfl rfl (bWW_shr (((shWr a0 ((32 : UInt64).toNat : Int)) * (a1 &&& 4294967295)) + (shWr ((a0 &&& 4294967295) * (a1 &&& 4294967295)) ((32 : UInt64).toNat : Int))) 32)) ?_
  refine r_u (o_as rfl) ?_
  refine r_nil ?_
  refine x_seq ?_
  refine c_seq ?_
  refine c_reg ?_
  refine r_u (o_mv rfl) ?_
  refine r_u (o_mv rfl) ?_
  refine r_u (o_mv rfl) ?_
  refine r_u (o_bin rfl rfl (bW_mul (a0 &&& 4294967295) (shWr a1 ((32 : UInt64).toNat : Int)))) ?_
  refine r_u (o_bin rfl rfl (bW_add ((((shWr a0 ((32 : UInt64).toNat : Int)) * (a1 &&& 4294967295)) + (shWr ((a0 &&& 4294967295) * (a1 &&& 4294967295)) ((32 : UInt64).toNat : Int))) &&& 4294967295) ((a0 &&& 4294967295) * (shWr a1 ((32 : UInt64).toNat : Int))))) ?_
  refine r_u (o_as rfl) ?_
  refine r_nil ?_
  refine x_seq ?_
  refine c_seq ?_
  refine c_reg ?_
  refine r_u (o_mv rfl) ?_
  refine r_u (o_mv rfl) ?_
  refine r_u (o_bin rfl rfl (bW_mul (shWr a0 ((32 : UInt64).toNat : Int)) (shWr a1 ((32 : UInt64).toNat : Int)))) ?_
  refine r_u (o_mv rfl) ?_
  refine r_u (o_bin rfl rfl (bW_add ((shWr a0 ((32 : UInt64).toNat : Int)) * (shWr a1 ((32 : UInt64).toNat : Int))) (shWr (((shWr a0 ((32 : UInt64).toNat : Int)) * (a1 &&& 4294967295)) + (shWr ((a0 &&& 4294967295) * (a1 &&& 4294967295)) ((32 : UInt64).toNat : Int))) ((32 : UInt64).toNat : Int)))) ?_
  refine r_u (o_mv rfl) ?_
  refine r_u (o_bin rfl rfl (bWW_shr (((((shWr a0 ((32 : UInt64).toNat : Int)) * (a1 &&& 4294967295)) + (shWr ((a0 &&& 4294967295) * (a1 &&& 4294967295)) ((32 : UInt64).toNat : Int))) &&& 4294967295) + ((a0 &&& 4294967295) * (shWr a1 ((32 : UInt64).toNat : Int)))) 32)) ?_
  refine r_u (o_bin rfl rfl (bW_add (((shWr a0 ((32 : UInt64).toNat : Int)) * (shWr a1 ((32 : UInt64).toNat : Int))) + (shWr (((shWr a0 ((32 : UInt64).toNat : Int)) * (a1 &&& 4294967295)) + (shWr ((a0 &&& 4294967295) * (a1 &&& 4294967295)) ((32 : UInt64).toNat : Int))) ((32 : UInt64).toNat : Int))) (shWr (((((shWr a0 ((32 : UInt64).toNat : Int)) * (a1 &&& 4294967295)) + (shWr ((a0 &&& 4294967295) * (a1 &&& 4294967295)) ((32 : UInt64).toNat : Int))) &&& 4294967295) + ((a0 &&& 4294967295) * (shWr a1 ((32 : UInt64).toNat : Int)))) ((32 : UInt64).toNat : Int)))) ?_
  refine r_u (o_as rfl) ?_
  refine r_nil ?_
  refine x_seq ?_
  refine c_seq ?_
  refine c_reg ?_
  refine r_u (o_mv rfl) ?_
  refine r_u (o_mv rfl) ?_
  refine r_u (o_bin rfl rfl (bW_mul a0 a1)) ?_
  refine r_u (o_as rfl) ?_
  refine r_nil ?_
  refine x_seq ?_
  refine c_ret ?_
  subst hm
  exact x_r2 rfl (rv_t rfl) (rv_t rfl) (Le.refl _) ⟨_, rfl, rfl, rfl, rfl⟩

def mix_Place (a0 : UInt64) (a1 : Int) (a2 : Int) : Int :=
  if decide (a2 < 1) then 0 else lt (bits_Mul64 (mix_Mix (a0 + ((toW a1) * 11400714819323198485))) (toW a2)) fun r2 => i64 (r2.1.toNat : Int)
theorem mix_Place.ok {G R F} (a0 : UInt64) (a1 : Int) (a2 : Int) (r : Int) (hm : mix_Place a0 a1 a2 = r) : CO Tryz.prog 239 [vW a0, vI a1, vI a2] G R (F)
    (Ret fun u R' L' => u = vI r ∧ R' = R ∧ L' = F) := by
  unfold mix_Place at hm
  refine co_ofN (N := 25) Tryz.func239 rfl rfl ?_
  refine c_seq ?_
  refine c_reg ?_
  refine r_u (o_as rfl) ?_
  refine r_nil ?_
  refine x_seq ?_
  refine c_seq ?_
  refine c_seq ?_
  refine c_reg ?_
  refine r_u (o_mv rfl) ?_
  refine r_u (o_bin rfl rfl (bI_lt a2 1)) ?_
  refine r_nil ?_
  refine x_seq ?_
  refine c_if (b := decide (a2 < 1)) rfl (fun h0 => ?_) fun h0 => ?_
  · have hm1 := ift hm h0
    clear hm
    refine c_seq ?_
    refine c_reg ?_
    refine r_u (o_as rfl) ?_
    refine r_nil ?_
    refine x_seq ?_
    refine c_ret ?_
    subst hm1
    exact x_r1 rfl (rv_t rfl) (Le.refl _) ⟨_, rfl, rfl, rfl, rfl⟩
  · have hm1 := iff_ hm h0
    clear hm
    refine c_skip ?_
    refine x_seq ?_
    refine c_seq ?_
    refine c_reg ?_
    refine r_u (o_mv rfl) ?_
    refine r_u (o_mv rfl) ?_
    refine r_u (o_cv rfl (cIW Tryz.underlying3 Tryz.underlying22 a1)) ?_
    refine r_u (o_bin rfl rfl (bW_mul (toW a1) 11400714819323198485)) ?_
    refine r_u (o_bin rfl rfl (bW_add a0 ((toW a1) * 11400714819323198485))) ?_
    refine r_u (o_callq ca249 rfl (mix_Mix.ok (a0 + ((toW a1) * 11400714819323198485)) _ rfl)) ?_
    refine r_u (o_mv rfl) ?_
    refine r_u (o_cv rfl (cIW Tryz.underlying3 Tryz.underlying22 a2)) ?_
    obtain ⟨r2, hr2, hm3⟩ := ltx hm1
    clear hm1
    refine r_u (o_callq ca248 rfl (bits_Mul64.ok (mix_Mix (a0 + ((toW a1) * 11400714819323198485))) (toW a2) r2 hr2)) ?_
    refine r_u (o_mv rfl) ?_
    refine r_u (o_ext rfl rfl) ?_
    refine r_u (o_ext rfl rfl) ?_
    refine r_u (o_as rfl) ?_
    refine r_u (o_as rfl) ?_
    refine r_nil ?_
    refine x_seq ?_
    refine c_seq ?_
    refine c_reg ?_
    refine r_u (o_mv rfl) ?_
    refine r_u (o_cv rfl (cWI Tryz.underlying22 Tryz.underlying3 r2.1)) ?_
    refine r_u (o_as rfl) ?_
    refine r_nil ?_
    refine x_seq ?_
    refine c_ret ?_
    subst hm3
    exact x_r1 rfl (rv_t rfl) (Le.refl _) ⟨_, rfl, rfl, rfl, rfl⟩

def sketch_Sketch_place (a0 : sketch_Sketch) (a1 : Str) (a2 : Int) : Option Int :=
  (mix_Of a0.seed a1).bind fun r2 => some (mix_Place r2 a2 a0.wide)
theorem sketch_Sketch_place.ok {G R F} (b0_ : Nat) (a0 : sketch_Sketch) (g0_ : sketch_Sketch.G) (a1 : Str) (a2 : Int) (r : Int) (hm : sketch_Sketch_place a0 a1 a2 = some r) : CO Tryz.prog 207 [pt b0_ 0, vS a1, vI a2] G R (Bk b0_ 250 [vI a0.wide, vW a0.seed, g0_.rows.1, g0_.rows.2.1, g0_.rows.2.2.1, g0_.rows.2.2.2, g0_.door, vI a0.added] :: OwL (OwS false 5 1 eY) [g0_.rows.1, g0_.rows.2.1, g0_.rows.2.2.1, g0_.rows.2.2.2] a0.rows :: OwS true 4 1 eB g0_.door a0.door :: F)
    (Ret fun u R' L' => u = vI r ∧ R' = R ∧ L' = Bk b0_ 250 [vI a0.wide, vW a0.seed, g0_.rows.1, g0_.rows.2.1, g0_.rows.2.2.1, g0_.rows.2.2.2, g0_.door, vI a0.added] :: OwL (OwS false 5 1 eY) [g0_.rows.1, g0_.rows.2.1, g0_.rows.2.2.1, g0_.rows.2.2.2] a0.rows :: OwS true 4 1 eB g0_.door a0.door :: F) := by
  unfold sketch_Sketch_place at hm
  refine co_ofN (N := 19) Tryz.func207 rfl rfl ?_
  refine c_seq ?_
  refine c_reg ?_
  refine r_u (o_as rfl) ?_
  refine r_nil ?_
  refine x_seq ?_
  refine c_seq ?_
  obtain ⟨r2, hr2, hm3⟩ := bs hm
  clear hm
  refine c_any mixed (effs := []) (V := []) ?_
  refine stage_ext [(0, pt b0_ 0), (1, pt b0_ 0), (2, pt b0_ 1), (3, vW a0.seed), (4, vS a1), (5, vW r2), (6, vI a2), (7, pt b0_ 0), (8, pt b0_ 0), (9, pt b0_ 0), (10, vI a0.wide), (11, vI (mix_Place r2 a2 a0.wide)), (12, vI (mix_Place r2 a2 a0.wide))] rfl ?_
  refine stage rfl rfl rfl rfl [0, 1, 3, 7, 0, 31, 0, 0, 128, 384, 896, 2047, 4095] [0, 1, 2, 3, 4, 5, 6, 7, 8, 9, 10, 11, 12] [] rfl rfl rfl (qc rfl rfl (s_u (o_mv rfl)) (qc rfl rfl (s_u (o_nc rfl)) (qc rfl rfl (s_u (o_fa fa250_1 rfl)) (qc rfl rfl (s_u (o_ld 0 sc22 rfl rfl rfl)) (qc rfl rfl (s_u (o_mv rfl)) (qc rfl rfl (s_u (o_callq ca240 rfl (mix_Of.ok a0.seed a1 r2 hr2))) (qc rfl rfl (s_u (o_mv rfl)) (qc rfl rfl (s_u (o_mv rfl)) (qc rfl rfl (s_u (o_nc rfl)) (qc rfl rfl (s_u (o_fa fa250_0 rfl)) (qc rfl rfl (s_u (o_ld 0 sc3 rfl rfl rfl)) (qc rfl rfl (s_u (o_callq ca239 rfl (mix_Place.ok r2 a2 a0.wide _ rfl))) (qc rfl rfl (s_u (o_as rfl)) qn))))))))))))) en ?_
  intro _
  refine ex_sub (E' := [(6, vI (mix_Place r2 a2 a0.wide))]) ⟨rfl, trivial⟩ ?_
  refine x_seq ?_
  refine c_ret ?_
  obtain rfl := Option.some.inj hm3
  exact x_r1 rfl (rv_t rfl) (Le.refl _) ⟨_, rfl, rfl, rfl, rfl⟩

def sketch_Sketch_least_l0 (a0 : sketch_Sketch) (a1 : Str) : Nat → UInt8 → Int → Option (UInt8)
  | 0, _, _ => none
  | k8 + 1, n_6, s_7 => if decide (s_7 < 4) then (gi a0.rows s_7).bind fun y13 => (sketch_Sketch_place a0 a1 s_7).bind fun r16 => (gi y13 r16).bind fun x18 => sketch_Sketch_least_l0 a0 a1 k8 (if x18 < n_6 then x18 else n_6) (i64 (s_7 + 1)) else some n_6
def sketch_Sketch_least (a0 : sketch_Sketch) (a1 : Str) : Option UInt8 :=
  Option.bind (sketch_Sketch_least_l0 a0 a1 5 15 0) fun p2 => some p2
theorem sketch_Sketch_least.ok {G R F} (b0_ : Nat) (a0 : sketch_Sketch) (g0_ : sketch_Sketch.G) (a1 : Str) (r : UInt8) (hm : sketch_Sketch_least a0 a1 = some r) : CO Tryz.prog 208 [pt b0_ 0, vS a1] G R (Bk b0_ 250 [vI a0.wide, vW a0.seed, g0_.rows.1, g0_.rows.2.1, g0_.rows.2.2.1, g0_.rows.2.2.2, g0_.door, vI a0.added] :: OwL (OwS false 5 1 eY) [g0_.rows.1, g0_.rows.2.1, g0_.rows.2.2.1, g0_.rows.2.2.2] a0.rows :: OwS true 4 1 eB g0_.door a0.door :: F)
    (Ret fun u R' L' => u = vY r ∧ R' = R ∧ L' = Bk b0_ 250 [vI a0.wide, vW a0.seed, g0_.rows.1, g0_.rows.2.1, g0_.rows.2.2.1, g0_.rows.2.2.2, g0_.door, vI a0.added] :: OwL (OwS false 5 1 eY) [g0_.rows.1, g0_.rows.2.1, g0_.rows.2.2.1, g0_.rows.2.2.2] a0.rows :: OwS true 4 1 eB g0_.door a0.door :: F) := by
  unfold sketch_Sketch_least at hm
  refine co_ofN (N := 26) Tryz.func208 rfl rfl ?_
  refine c_seq ?_
  refine c_reg ?_
  refine r_u (o_as rfl) ?_
  refine r_nil ?_
  refine x_seq ?_
  refine c_seq ?_
  refine c_reg ?_
  refine r_u (o_as rfl) ?_
  refine r_nil ?_
  refine x_seq ?_
  refine c_seq ?_
  refine c_seq ?_
  refine c_reg ?_
  refine r_u (o_mv rfl) ?_
  refine r_nil ?_
  refine x_seq ?_
  obtain ⟨p2, hp3, hm4⟩ := bs hm
  refine cd_join (E' := [(5, vY p2)]) (L' := Bk b0_ 250 [vI a0.wide, vW a0.seed, g0_.rows.1, g0_.rows.2.1, g0_.rows.2.2.1, g0_.rows.2.2.2, g0_.door, vI a0.added] :: OwL (OwS false 5 1 eY) [g0_.rows.1, g0_.rows.2.1, g0_.rows.2.2.1, g0_.rows.2.2.2] a0.rows :: OwS true 4 1 eB g0_.door a0.door :: F) ?_ fun K5 => ?_
  · refine x_seq ?_
    refine c_seq ?_
    refine c_reg ?_
    refine r_u (o_mv rfl) ?_
    refine r_u (o_as rfl) ?_
    refine r_nil ?_
    refine x_seq ?_
    refine c_ret ?_
    obtain rfl := Option.some.inj hm4
    exact x_r1 rfl (rv_t rfl) (Le.refl _) ⟨_, rfl, rfl, rfl, rfl⟩
  · refine c_blk ?_
    refine cd_loop (M := fun k8 (s : UInt8 × Int) => sketch_Sketch_least_l0 a0 a1 k8 s.1 s.2 = some p2) (Ef := fun (s : UInt8 × Int) => [(0, pt b0_ 0), (1, vS a1), (5, vY s.1), (7, vI s.2)]) (Lf := fun (s : UInt8 × Int) => Bk b0_ 250 [vI a0.wide, vW a0.seed, g0_.rows.1, g0_.rows.2.1, g0_.rows.2.2.1, g0_.rows.2.2.2, g0_.door, vI a0.added] :: OwL (OwS false 5 1 eY) [g0_.rows.1, g0_.rows.2.1, g0_.rows.2.2.1, g0_.rows.2.2.2] a0.rows :: OwS true 4 1 eB g0_.door a0.door :: F) 5 (15, 0) hp3 ⟨rfl, rfl, rfl, rfl, trivial⟩ (fun _ h => h) (fun _ h => by cases h) fun k8 s hM10 => ?_
    obtain ⟨n_6, s_7⟩ := s
    have hm9 : sketch_Sketch_least_l0 a0 a1 (k8 + 1) n_6 s_7 = some p2 := hM10
    rw [sketch_Sketch_least_l0] at hm9
    refine c_seq ?_
    refine c_reg ?_
    refine r_u (o_bin rfl rfl (bI_lt s_7 4)) ?_
    refine r_nil ?_
    refine x_seq ?_
    refine c_seq ?_
    refine c_if (b := decide (s_7 < 4)) rfl (fun h11 => ?_) fun h11 => ?_
    · have hm12 := ift hm9 h11
      clear hm9
      refine c_skip ?_
      refine x_seq ?_
      refine c_seq ?_
      refine c_blk ?_
      refine c_seq ?_
      refine c_reg ?_
      refine r_u (o_mv rfl) ?_
      refine r_u (o_as rfl) ?_
      refine r_nil ?_
      refine x_seq ?_
      obtain ⟨y13, hy13, hm15⟩ := bs hm12
      clear hm12
      refine cd_ex (fun w h => st_peek 1 hy13 rfl w h) fun u14 hu14 => ?_
      obtain ⟨r16, hr16, hm17⟩ := bs hm15
      clear hm15
      obtain ⟨x18, hx18, hm19⟩ := bs hm17
      clear hm17
      refine c_any mixed (effs := []) (V := []) ?_
      refine stage_ext [(0, vY n_6), (1, pt b0_ 0), (2, vI s_7), (3, pt b0_ 0), (4, pt b0_ 2), (5, pt b0_ (2 + s_7.toNat * 1)), (6, u14), (7, pt b0_ 0), (8, vS a1), (9, vI s_7), (10, vI r16), (11, pt (sb u14) (so u14 + r16.toNat * 1)), (12, vY x18), (13, vY (if x18 < n_6 then x18 else n_6)), (14, vY (if x18 < n_6 then x18 else n_6))] rfl ?_
      refine stage rfl rfl rfl rfl [0, 0, 0, 2, 10, 30, 62, 0, 0, 0, 896, 2046, 4094, 8191, 16383] [0, 1, 2, 3, 4, 5, 6, 7, 8, 9, 10, 11, 12, 13, 14] [] rfl rfl rfl (qc rfl rfl (s_u (o_mv rfl)) (qc rfl rfl (s_u (o_mv rfl)) (qc rfl rfl (s_u (o_mv rfl)) (qc rfl rfl (s_u (o_nc rfl)) (qc rfl rfl (s_u (o_fa fa250_2 rfl)) (qc rfl rfl (s_u (o_ixA (sz := 1) Tryz.underlying248 (fun _ => by kernel_rfl) rfl rfl (gi_some hu14).1)) (qc rfl rfl (s_u (o_ldA (o := 2) (n := 4) 0 sc131 rfl rfl hu14)) (qc rfl rfl (s_u (o_mv rfl)) (qc rfl rfl (s_u (o_mv rfl)) (qc rfl rfl (s_u (o_mv rfl)) (qc rfl rfl (s_u (o_callqP ca207 rfl (sketch_Sketch_place.ok b0_ a0 g0_ a1 s_7 r16 hr16) (fun _ h => st_pk 3 [0, 1, 2] (by decide) h) (fun _ h => st_pk 3 [0, 1, 2] (by decide) h))) (qc rfl rfl (s_u (o_ixK (kn_in 1 rfl hu14 hy13) Tryz.underlying131 (fun _ => by kernel_rfl) rfl rfl hx18)) (qc rfl rfl (s_u (o_ldK (kn_in 1 rfl hu14 hy13) 0 sc5 rfl hx18 rfl rfl)) (qc rfl rfl (s_u (o_minY rfl rfl)) (qc rfl rfl (s_u (o_as rfl)) qn))))))))))))))) en ?_
      intro _
      refine ex_sub (E' := [(0, pt b0_ 0), (1, vS a1), (5, vY (if x18 < n_6 then x18 else n_6)), (7, vI s_7)]) ⟨rfl, rfl, rfl, rfl, trivial⟩ ?_
      refine x_blk ?_
      refine x_seq ?_
      refine c_reg ?_
      refine r_u (o_bin rfl rfl (bI_add s_7 1)) ?_
      refine r_u (o_mv rfl) ?_
      refine r_nil ?_
      exact x_lp ((if x18 < n_6 then x18 else n_6), i64 (s_7 + 1)) hm19 ⟨rfl, rfl, rfl, rfl, trivial⟩ (fun _ h => st_pk 3 [0, 1, 2] (by decide) h)
    · have hm12 := iff_ hm9 h11
      clear hm9
      refine c_exit (x_exit (ks' := _) rfl ?_)
      obtain rfl := Option.some.inj hm12
      exact x_sub K5 ⟨rfl, trivial⟩ (fun _ h => st_pk 3 [0, 1, 2] (by decide) h)

def sketch_Sketch_Age_l1 (s_6 : Int) (y17 : List UInt8) : Nat → Int → (List (List UInt8)) → Option (List (List UInt8))
  | 0, _, _ => none
  | k26 + 1, s_24, c_25 => if decide (s_24 < (y17.length : Int)) then (gi c_25 s_6).bind fun y31 => (gi y31 s_24).bind fun x34 => sketch_Sketch_Age_l1 s_6 y17 k26 (i64 (s_24 + 1)) (ls c_25 s_6 (ls y31 s_24 (x34 / 2))) else some c_25
def sketch_Sketch_Age_l0  : Nat → Int → (List (List UInt8)) → Option (List (List UInt8))
  | 0, _, _ => none
  | k8 + 1, s_6, c_7 => if decide (s_6 < 4) then Option.bind ((gi c_7 s_6).bind fun y17 => Option.bind (sketch_Sketch_Age_l1 s_6 y17 (((y17.length : Int) - 0).toNat + 1) 0 c_7) fun p20 => some p20) fun p13 => sketch_Sketch_Age_l0 k8 (i64 (s_6 + 1)) p13 else some c_7
def sketch_Sketch_Age (a0 : sketch_Sketch) : Option sketch_Sketch :=
  Option.bind (sketch_Sketch_Age_l0 5 0 a0.rows) fun p2 => some (⟨a0.wide, a0.seed, p2, List.replicate a0.door.length false, i64 (a0.added.tdiv 2)⟩ : sketch_Sketch)
theorem sketch_Sketch_Age.ok {G R F} (b0_ : Nat) (a0 : sketch_Sketch) (g0_ : sketch_Sketch.G) (r : sketch_Sketch) (hm : sketch_Sketch_Age a0 = some r) : CO Tryz.prog 209 [pt b0_ 0] G R (Bk b0_ 250 [vI a0.wide, vW a0.seed, g0_.rows.1, g0_.rows.2.1, g0_.rows.2.2.1, g0_.rows.2.2.2, g0_.door, vI a0.added] :: OwL (OwS false 5 1 eY) [g0_.rows.1, g0_.rows.2.1, g0_.rows.2.2.1, g0_.rows.2.2.2] a0.rows :: OwS true 4 1 eB g0_.door a0.door :: F)
    (Ret fun u R' L' => u = .tuple #[] ∧ R' = R ∧ L' = Bk b0_ 250 [vI r.wide, vW r.seed, g0_.rows.1, g0_.rows.2.1, g0_.rows.2.2.1, g0_.rows.2.2.2, g0_.door, vI r.added] :: OwL (OwS false 5 1 eY) [g0_.rows.1, g0_.rows.2.1, g0_.rows.2.2.1, g0_.rows.2.2.2] r.rows :: OwS true 4 1 eB g0_.door r.door :: F) := by
  unfold sketch_Sketch_Age at hm
  refine co_ofN (N := 43) Tryz.func209 rfl rfl ?_
  refine c_seq ?_
  refine c_seq ?_
  refine c_reg ?_
  refine r_u (o_mv rfl) ?_
  refine r_u (o_bin rfl rfl (bP_eqp Tryz.underlying194)) ?_
  refine r_nil ?_
  refine x_seq ?_
  refine c_ff rfl ?_
  refine c_skip ?_
  refine x_seq ?_
  refine c_seq ?_
  refine c_seq ?_
  refine c_reg ?_
  refine r_u (o_mv rfl) ?_
  refine r_nil ?_
  refine x_seq ?_
  obtain ⟨p2, hp3, hm4⟩ := bs hm
  refine cd_join (E' := [(0, pt b0_ 0)]) (L' := Bk b0_ 250 [vI a0.wide, vW a0.seed, g0_.rows.1, g0_.rows.2.1, g0_.rows.2.2.1, g0_.rows.2.2.2, g0_.door, vI a0.added] :: OwL (OwS false 5 1 eY) [g0_.rows.1, g0_.rows.2.1, g0_.rows.2.2.1, g0_.rows.2.2.2] p2 :: OwS true 4 1 eB g0_.door a0.door :: F) ?_ fun K5 => ?_
  · refine x_seq ?_
    refine c_seq ?_
    refine c_reg ?_
    refine r_u (o_mv rfl) ?_
    refine r_u (o_nc rfl) ?_
    refine r_u (o_fa fa250_3 rfl) ?_
    refine r_u (o_ld 0 sc68 rfl rfl rfl) ?_
    refine rl_st (fun _ h => mv2 h) ?_
    refine r_u0 (o_clr (e := 4) (z1 := false) Tryz.underlying68 rfl rfl rfl rfl ⟨_, rfl, rfl⟩ rfl rfl) ?_
    refine r_nil ?_
    refine x_seq ?_
    refine c_reg ?_
    refine r_u (o_mv rfl) ?_
    refine r_u (o_nc rfl) ?_
    refine r_u (o_fa fa250_4 rfl) ?_
    refine r_u (o_ld 1 sc3 rfl rfl rfl) ?_
    refine r_u (o_bin rfl rfl (bI_quo a0.added 2 (by decide))) ?_
    refine r_u (o_nc rfl) ?_
    refine r_u (o_fa fa250_4 rfl) ?_
    refine rl_st (fun _ h => mv1 h) ?_
    refine r_u0 (o_st sc3 rfl rfl rfl rfl rfl rfl) ?_
    refine r_nil ?_
    refine x_end ?_
    obtain rfl := Option.some.inj hm4
    refine ex_st (fun _ h => st_pk 3 [0, 2, 1] (by decide) h) ?_
    exact x_r0 rfl (Le.refl _) ⟨_, rfl, rfl, rfl, rfl⟩
  · refine c_blk ?_
    refine cd_loop (M := fun k8 (s : Int × List (List UInt8)) => sketch_Sketch_Age_l0 k8 s.1 s.2 = some p2) (Ef := fun (s : Int × List (List UInt8)) => [(0, pt b0_ 0), (6, vI s.1)]) (Lf := fun (s : Int × List (List UInt8)) => Bk b0_ 250 [vI a0.wide, vW a0.seed, g0_.rows.1, g0_.rows.2.1, g0_.rows.2.2.1, g0_.rows.2.2.2, g0_.door, vI a0.added] :: OwL (OwS false 5 1 eY) [g0_.rows.1, g0_.rows.2.1, g0_.rows.2.2.1, g0_.rows.2.2.2] s.2 :: OwS true 4 1 eB g0_.door a0.door :: F) 5 (0, a0.rows) hp3 ⟨rfl, rfl, trivial⟩ (fun _ h => h) (fun _ h => by cases h) fun k8 s hM10 => ?_
    obtain ⟨s_6, c_7⟩ := s
    have hm9 : sketch_Sketch_Age_l0 (k8 + 1) s_6 c_7 = some p2 := hM10
    rw [sketch_Sketch_Age_l0] at hm9
    refine c_seq ?_
    refine c_reg ?_
    refine r_u (o_bin rfl rfl (bI_lt s_6 4)) ?_
    refine r_nil ?_
    refine x_seq ?_
    refine c_seq ?_
    refine c_if (b := decide (s_6 < 4)) rfl (fun h11 => ?_) fun h11 => ?_
    · have hm12 := ift hm9 h11
      clear hm9
      refine c_skip ?_
      refine x_seq ?_
      refine c_seq ?_
      obtain ⟨p13, hp14, hm15⟩ := bs hm12
      refine cd_join (E' := [(0, pt b0_ 0), (6, vI s_6)]) (L' := Bk b0_ 250 [vI a0.wide, vW a0.seed, g0_.rows.1, g0_.rows.2.1, g0_.rows.2.2.1, g0_.rows.2.2.2, g0_.door, vI a0.added] :: OwL (OwS false 5 1 eY) [g0_.rows.1, g0_.rows.2.1, g0_.rows.2.2.1, g0_.rows.2.2.2] p13 :: OwS true 4 1 eB g0_.door a0.door :: F) ?_ fun K16 => ?_
      · refine x_seq ?_
        refine c_reg ?_
        refine r_u (o_bin rfl rfl (bI_add s_6 1)) ?_
        refine r_u (o_mv rfl) ?_
        refine r_nil ?_
        exact x_lp (i64 (s_6 + 1), p13) hm15 ⟨rfl, rfl, trivial⟩ (fun _ h => st_pk 3 [0, 1, 2] (by decide) h)
      · refine c_blk ?_
        refine c_seq ?_
        refine c_reg ?_
        refine r_u (o_mv rfl) ?_
        refine r_u (o_as rfl) ?_
        refine r_nil ?_
        refine x_seq ?_
        refine c_seq ?_
        refine c_reg ?_
        refine r_u (o_mv rfl) ?_
        refine r_u (o_mv rfl) ?_
        refine r_u (o_nc rfl) ?_
        refine r_u (o_fa fa250_2 rfl) ?_
        obtain ⟨y17, hy17, hm19⟩ := bs hp14
        clear hp14
        refine rl_ex (fun w h => st_peek 1 hy17 rfl w h) fun u18 hu18 => ?_
        refine r_u (o_ixA (sz := 1) Tryz.underlying248 (fun _ => by kernel_rfl) rfl rfl (gi_some hu18).1) ?_
        refine r_u (o_ldA (o := 2) (n := 4) 0 sc131 rfl rfl hu18) ?_
        refine r_u (o_lenK (kn_in 1 rfl hu18 hy17) Tryz.underlying131 rfl) ?_
        refine r_u (o_mv rfl) ?_
        refine r_nil ?_
        refine x_seq ?_
        obtain ⟨p20, hp21, hm22⟩ := bs hm19
        refine cd_join (E' := [(0, pt b0_ 0), (6, vI s_6)]) (L' := Bk b0_ 250 [vI a0.wide, vW a0.seed, g0_.rows.1, g0_.rows.2.1, g0_.rows.2.2.1, g0_.rows.2.2.2, g0_.door, vI a0.added] :: OwL (OwS false 5 1 eY) [g0_.rows.1, g0_.rows.2.1, g0_.rows.2.2.1, g0_.rows.2.2.2] p20 :: OwS true 4 1 eB g0_.door a0.door :: F) ?_ fun K23 => ?_
        · refine x_blk ?_
          obtain rfl := Option.some.inj hm22
          exact x_sub K16 ⟨rfl, rfl, trivial⟩ (fun _ h => st_pk 3 [0, 1, 2] (by decide) h)
        · refine c_blk ?_
          refine cd_loop (M := fun k26 (s : Int × List (List UInt8)) => sketch_Sketch_Age_l1 s_6 y17 k26 s.1 s.2 = some p20) (Ef := fun (s : Int × List (List UInt8)) => [(0, pt b0_ 0), (2, vI s_6), (6, vI s_6), (15, vI (y17.length : Int)), (16, vI s.1)]) (Lf := fun (s : Int × List (List UInt8)) => Bk b0_ 250 [vI a0.wide, vW a0.seed, g0_.rows.1, g0_.rows.2.1, g0_.rows.2.2.1, g0_.rows.2.2.2, g0_.door, vI a0.added] :: OwL (OwS false 5 1 eY) [g0_.rows.1, g0_.rows.2.1, g0_.rows.2.2.1, g0_.rows.2.2.2] s.2 :: OwS true 4 1 eB g0_.door a0.door :: F) (((y17.length : Int) - 0).toNat + 1) (0, c_7) hp21 ⟨rfl, rfl, rfl, rfl, rfl, trivial⟩ (fun _ h => h) (fun _ h => by cases h) fun k26 s hM28 => ?_
          obtain ⟨s_24, c_25⟩ := s
          have hm27 : sketch_Sketch_Age_l1 s_6 y17 (k26 + 1) s_24 c_25 = some p20 := hM28
          rw [sketch_Sketch_Age_l1] at hm27
          refine c_seq ?_
          refine c_reg ?_
          refine r_u (o_bin rfl rfl (bI_lt s_24 (y17.length : Int))) ?_
          refine r_nil ?_
          refine x_seq ?_
          refine c_seq ?_
          refine c_if (b := decide (s_24 < (y17.length : Int))) rfl (fun h29 => ?_) fun h29 => ?_
          · have hm30 := ift hm27 h29
            clear hm27
            refine c_skip ?_
            refine x_seq ?_
            refine c_seq ?_
            refine c_blk ?_
            refine c_seq ?_
            refine c_reg ?_
            refine r_u (o_mv rfl) ?_
            refine r_u (o_as rfl) ?_
            refine r_nil ?_
            refine x_seq ?_
            refine c_reg ?_
            refine r_u (o_mv rfl) ?_
            refine r_u (o_mv rfl) ?_
            refine r_u (o_nc rfl) ?_
            refine r_u (o_fa fa250_2 rfl) ?_
            obtain ⟨y31, hy31, hm33⟩ := bs hm30
            clear hm30
            refine rl_ex (fun w h => st_peek 1 hy31 rfl w h) fun u32 hu32 => ?_
            refine r_u (o_ixA (sz := 1) Tryz.underlying248 (fun _ => by kernel_rfl) rfl rfl (gi_some hu32).1) ?_
            refine r_u (o_ldA (o := 2) (n := 4) 0 sc131 rfl rfl hu32) ?_
            refine r_u (o_mv rfl) ?_
            obtain ⟨x34, hx34, hm35⟩ := bs hm33
            clear hm33
            refine r_u (o_ixK (kn_in 1 rfl hu32 hy31) Tryz.underlying131 (fun _ => by kernel_rfl) rfl rfl hx34) ?_
            refine r_u (o_ldK (kn_in 1 rfl hu32 hy31) 0 sc5 rfl hx34 rfl rfl) ?_
            refine r_u (o_bin rfl rfl (bY_quo x34 2 (by decide))) ?_
            refine r_u (o_ixK (kn_in 1 rfl hu32 hy31) Tryz.underlying131 (fun _ => by kernel_rfl) rfl rfl hx34) ?_
            refine rl_st (fun _ h => mv1 h) ?_
            refine r_u0 (o_stL (c' := x34 / 2) 0 hu32 hy31 sc5 rfl rfl rfl hx34 rfl rfl rfl) ?_
            refine r_nil ?_
            refine x_blk ?_
            refine x_seq ?_
            refine c_reg ?_
            refine r_u (o_bin rfl rfl (bI_add s_24 1)) ?_
            refine r_u (o_mv rfl) ?_
            refine r_nil ?_
            exact x_lp (i64 (s_24 + 1), ls c_25 s_6 (ls y31 s_24 (x34 / 2))) hm35 ⟨rfl, rfl, rfl, rfl, rfl, trivial⟩ (fun _ h => st_pk 3 [1, 0, 2] (by decide) h)
          · have hm30 := iff_ hm27 h29
            clear hm27
            refine c_exit (x_exit (ks' := _) rfl ?_)
            obtain rfl := Option.some.inj hm30
            exact x_sub K23 ⟨rfl, rfl, trivial⟩ (fun _ h => st_pk 3 [0, 1, 2] (by decide) h)
    · have hm12 := iff_ hm9 h11
      clear hm9
      refine c_exit (x_exit (ks' := _) rfl ?_)
      obtain rfl := Option.some.inj hm12
      exact x_sub K5 ⟨rfl, trivial⟩ (fun _ h => st_pk 3 [0, 1, 2] (by decide) h)

def sketch_Sketch_Add_l0 (a0 : sketch_Sketch) (a1 : Str) (r16 : UInt8) : Nat → Int → (List (List UInt8)) → Option (List (List UInt8))
  | 0, _, _ => none
  | k24 + 1, s_22, c_23 => if decide (s_22 < 4) then (sketch_Sketch_place (⟨a0.wide, a0.seed, c_23, a0.door, a0.added⟩ : sketch_Sketch) a1 s_22).bind fun r29 => (gi c_23 s_22).bind fun y31 => (gi y31 r29).bind fun x34 => Option.bind (if ((x34 == r16) && decide (r16 < 15)) then some (ls c_23 s_22 (ls y31 r29 (x34 + 1))) else some c_23) fun p36 => sketch_Sketch_Add_l0 a0 a1 r16 k24 (i64 (s_22 + 1)) p36 else some c_23
def sketch_Sketch_Add (a0 : sketch_Sketch) (a1 : Str) : Option sketch_Sketch :=
  (sketch_Sketch_place a0 a1 4).bind fun r2 => (gi a0.door r2).bind fun x4 => Option.bind (if !x4 then some (ls a0.door r2 true, a0.rows) else (sketch_Sketch_least a0 a1).bind fun r16 => Option.bind (sketch_Sketch_Add_l0 a0 a1 r16 5 0 a0.rows) fun p18 => some (a0.door, p18)) fun p6 => if decide ((i64 (10 * a0.wide)) ≤ (i64 (a0.added + 1))) then (sketch_Sketch_Age (⟨a0.wide, a0.seed, p6.2, p6.1, i64 (a0.added + 1)⟩ : sketch_Sketch)).bind fun r12 => some r12 else some (⟨a0.wide, a0.seed, p6.2, p6.1, i64 (a0.added + 1)⟩ : sketch_Sketch)
theorem sketch_Sketch_Add.ok {G R F} (b0_ : Nat) (a0 : sketch_Sketch) (g0_ : sketch_Sketch.G) (a1 : Str) (r : sketch_Sketch) (hm : sketch_Sketch_Add a0 a1 = some r) : CO Tryz.prog 162 [pt b0_ 0, vS a1] G R (Bk b0_ 250 [vI a0.wide, vW a0.seed, g0_.rows.1, g0_.rows.2.1, g0_.rows.2.2.1, g0_.rows.2.2.2, g0_.door, vI a0.added] :: OwL (OwS false 5 1 eY) [g0_.rows.1, g0_.rows.2.1, g0_.rows.2.2.1, g0_.rows.2.2.2] a0.rows :: OwS true 4 1 eB g0_.door a0.door :: F)
    (Ret fun u R' L' => u = .tuple #[] ∧ R' = R ∧ L' = Bk b0_ 250 [vI r.wide, vW r.seed, g0_.rows.1, g0_.rows.2.1, g0_.rows.2.2.1, g0_.rows.2.2.2, g0_.door, vI r.added] :: OwL (OwS false 5 1 eY) [g0_.rows.1, g0_.rows.2.1, g0_.rows.2.2.1, g0_.rows.2.2.2] r.rows :: OwS true 4 1 eB g0_.door r.door :: F) := by
  unfold sketch_Sketch_Add at hm
  refine co_ofN (N := 83) Tryz.func162 rfl rfl ?_
  refine c_seq ?_
  refine c_seq ?_
  refine c_reg ?_
  refine r_u (o_mv rfl) ?_
  refine r_u (o_bin rfl rfl (bP_eqp Tryz.underlying194)) ?_
  refine r_nil ?_
  refine x_seq ?_
  refine c_ff rfl ?_
  refine c_skip ?_
  refine x_seq ?_
  refine c_seq ?_
  refine c_seq ?_
  refine c_reg ?_
  refine r_u (o_mv rfl) ?_
  refine r_u (o_mv rfl) ?_
  obtain ⟨r2, hr2, hm3⟩ := bs hm
  clear hm
  refine r_c (s_w (o_call ca207 rfl (sketch_Sketch_place.ok b0_ a0 g0_ a1 4 r2 hr2))) ?_
  refine r_u (o_as rfl) ?_
  refine r_nil ?_
  refine x_seq ?_
  refine c_seq ?_
  refine c_reg ?_
  refine r_u (o_mv rfl) ?_
  refine r_u (o_nc rfl) ?_
  refine r_u (o_fa fa250_3 rfl) ?_
  refine r_u (o_ld 0 sc68 rfl rfl rfl) ?_
  refine r_u (o_mv rfl) ?_
  obtain ⟨x4, hx4, hm5⟩ := bs hm3
  clear hm3
  refine r_u (o_ixO 2 Tryz.underlying68 (fun _ => by kernel_rfl) rfl rfl rfl hx4) ?_
  refine r_u (o_ldO0 2 sc4 rfl rfl hx4 rfl rfl) ?_
  refine r_u (o_not rfl) ?_
  refine r_nil ?_
  refine x_seq ?_
  obtain ⟨p6, hp7, hm8⟩ := bs hm5
  refine cd_join (E' := [(0, pt b0_ 0)]) (L' := Bk b0_ 250 [vI a0.wide, vW a0.seed, g0_.rows.1, g0_.rows.2.1, g0_.rows.2.2.1, g0_.rows.2.2.2, g0_.door, vI a0.added] :: OwS true 4 1 eB g0_.door p6.1 :: OwL (OwS false 5 1 eY) [g0_.rows.1, g0_.rows.2.1, g0_.rows.2.2.1, g0_.rows.2.2.2] p6.2 :: F) ?_ fun K9 => ?_
  · refine x_seq ?_
    refine c_seq ?_
    refine c_reg ?_
    refine r_u (o_mv rfl) ?_
    refine r_u (o_nc rfl) ?_
    refine r_u (o_fa fa250_4 rfl) ?_
    refine r_u (o_ld 0 sc3 rfl rfl rfl) ?_
    refine r_u (o_bin rfl rfl (bI_add a0.added 1)) ?_
    refine r_u (o_nc rfl) ?_
    refine r_u (o_fa fa250_4 rfl) ?_
    refine r_u0 (o_st sc3 rfl rfl rfl rfl rfl rfl) ?_
    refine r_nil ?_
    refine x_seq ?_
    refine c_seq ?_
    refine c_any mixed (effs := []) (V := []) ?_
    refine stage_ext [(0, pt b0_ 0), (1, pt b0_ 0), (2, pt b0_ 7), (3, vI (i64 (a0.added + 1))), (4, pt b0_ 0), (5, pt b0_ 0), (6, pt b0_ 0), (7, vI a0.wide), (8, vI (i64 (10 * a0.wide))), (9, vB (decide ((i64 (10 * a0.wide)) ≤ (i64 (a0.added + 1)))))] rfl ?_
    refine stage rfl rfl rfl rfl [0, 1, 3, 7, 0, 16, 48, 112, 240, 511] [0, 1, 2, 3, 4, 5, 6, 7, 8, 9] [] rfl rfl rfl (qc rfl rfl (s_u (o_mv rfl)) (qc rfl rfl (s_u (o_nc rfl)) (qc rfl rfl (s_u (o_fa fa250_4 rfl)) (qc rfl rfl (s_u (o_ld 0 sc3 rfl rfl rfl)) (qc rfl rfl (s_u (o_mv rfl)) (qc rfl rfl (s_u (o_nc rfl)) (qc rfl rfl (s_u (o_fa fa250_0 rfl)) (qc rfl rfl (s_u (o_ld 0 sc3 rfl rfl rfl)) (qc rfl rfl (s_u (o_bin rfl rfl (bI_mul 10 a0.wide))) (qc rfl rfl (s_u (o_bin rfl rfl (bI_ge (i64 (a0.added + 1)) (i64 (10 * a0.wide))))) qn)))))))))) en ?_
    intro _
    refine ex_sub (E' := [(0, pt b0_ 0), (80, vB (decide ((i64 (10 * a0.wide)) ≤ (i64 (a0.added + 1)))))]) ⟨rfl, rfl, trivial⟩ ?_
    refine x_seq ?_
    refine c_if (b := decide ((i64 (10 * a0.wide)) ≤ (i64 (a0.added + 1)))) rfl (fun h10 => ?_) fun h10 => ?_
    · have hm11 := ift hm8 h10
      clear hm8
      refine c_reg ?_
      refine r_u (o_mv rfl) ?_
      obtain ⟨r12, hr12, hm13⟩ := bs hm11
      clear hm11
      refine rl_st (fun _ h => mv2 (mv2 (mv1 h))) ?_
      refine r_c (s_w (o_call ca209 rfl (sketch_Sketch_Age.ok b0_ (⟨a0.wide, a0.seed, p6.2, p6.1, i64 (a0.added + 1)⟩ : sketch_Sketch) g0_ r12 hr12))) ?_
      refine r_nil ?_
      refine x_end ?_
      obtain rfl := Option.some.inj hm13
      exact x_r0 rfl (Le.refl _) ⟨_, rfl, rfl, rfl, rfl⟩
    · have hm11 := iff_ hm8 h10
      clear hm8
      refine c_skip ?_
      refine x_end ?_
      obtain rfl := Option.some.inj hm11
      refine ex_st (fun _ h => st_pk 3 [0, 2, 1] (by decide) h) ?_
      exact x_r0 rfl (Le.refl _) ⟨_, rfl, rfl, rfl, rfl⟩
  · refine c_if (b := !x4) rfl (fun h14 => ?_) fun h14 => ?_
    · have hm15 := ift hp7 h14
      clear hp7
      refine c_reg ?_
      refine r_u (o_mv rfl) ?_
      refine r_u (o_nc rfl) ?_
      refine r_u (o_fa fa250_3 rfl) ?_
      refine r_u (o_ld 0 sc68 rfl rfl rfl) ?_
      refine r_u (o_mv rfl) ?_
      refine r_u (o_ixO 2 Tryz.underlying68 (fun _ => by kernel_rfl) rfl rfl rfl hx4) ?_
      refine rl_st (fun _ h => mv2 h) ?_
      refine r_u0 (o_stO0 (c' := true) sc4 rfl rfl rfl hx4 rfl rfl rfl) ?_
      refine r_nil ?_
      obtain rfl := Option.some.inj hm15
      exact x_sub K9 ⟨rfl, trivial⟩ (fun _ h => st_pk 3 [1, 0, 2] (by decide) h)
    · have hm15 := iff_ hp7 h14
      clear hp7
      refine c_seq ?_
      refine c_reg ?_
      refine r_u (o_mv rfl) ?_
      refine r_u (o_mv rfl) ?_
      obtain ⟨r16, hr16, hm17⟩ := bs hm15
      clear hm15
      refine r_c (s_w (o_call ca208 rfl (sketch_Sketch_least.ok b0_ a0 g0_ a1 r16 hr16))) ?_
      refine r_u (o_as rfl) ?_
      refine r_nil ?_
      refine x_seq ?_
      refine c_seq ?_
      refine c_reg ?_
      refine r_u (o_mv rfl) ?_
      refine r_nil ?_
      refine x_seq ?_
      obtain ⟨p18, hp19, hm20⟩ := bs hm17
      refine cd_join (E' := [(0, pt b0_ 0)]) (L' := Bk b0_ 250 [vI a0.wide, vW a0.seed, g0_.rows.1, g0_.rows.2.1, g0_.rows.2.2.1, g0_.rows.2.2.2, g0_.door, vI a0.added] :: OwL (OwS false 5 1 eY) [g0_.rows.1, g0_.rows.2.1, g0_.rows.2.2.1, g0_.rows.2.2.2] p18 :: OwS true 4 1 eB g0_.door a0.door :: F) ?_ fun K21 => ?_
      · obtain rfl := Option.some.inj hm20
        exact x_sub K9 ⟨rfl, trivial⟩ (fun _ h => st_pk 3 [0, 2, 1] (by decide) h)
      · refine c_blk ?_
        refine cd_loop (M := fun k24 (s : Int × List (List UInt8)) => sketch_Sketch_Add_l0 a0 a1 r16 k24 s.1 s.2 = some p18) (Ef := fun (s : Int × List (List UInt8)) => [(0, pt b0_ 0), (1, vS a1), (5, vY r16), (30, vI s.1)]) (Lf := fun (s : Int × List (List UInt8)) => Bk b0_ 250 [vI a0.wide, vW a0.seed, g0_.rows.1, g0_.rows.2.1, g0_.rows.2.2.1, g0_.rows.2.2.2, g0_.door, vI a0.added] :: OwL (OwS false 5 1 eY) [g0_.rows.1, g0_.rows.2.1, g0_.rows.2.2.1, g0_.rows.2.2.2] s.2 :: OwS true 4 1 eB g0_.door a0.door :: F) 5 (0, a0.rows) hp19 ⟨rfl, rfl, rfl, rfl, trivial⟩ (fun _ h => h) (fun _ h => by cases h) fun k24 s hM26 => ?_
        obtain ⟨s_22, c_23⟩ := s
        have hm25 : sketch_Sketch_Add_l0 a0 a1 r16 (k24 + 1) s_22 c_23 = some p18 := hM26
        rw [sketch_Sketch_Add_l0] at hm25
        refine c_seq ?_
        refine c_reg ?_
        refine r_u (o_bin rfl rfl (bI_lt s_22 4)) ?_
        refine r_nil ?_
        refine x_seq ?_
        refine c_seq ?_
        refine c_if (b := decide (s_22 < 4)) rfl (fun h27 => ?_) fun h27 => ?_
        · have hm28 := ift hm25 h27
          clear hm25
          refine c_skip ?_
          refine x_seq ?_
          refine c_seq ?_
          refine c_blk ?_
          refine c_seq ?_
          refine c_reg ?_
          refine r_u (o_mv rfl) ?_
          refine r_u (o_as rfl) ?_
          refine r_nil ?_
          refine x_seq ?_
          refine c_seq ?_
          refine c_reg ?_
          refine r_u (o_mv rfl) ?_
          refine r_u (o_mv rfl) ?_
          refine r_u (o_mv rfl) ?_
          obtain ⟨r29, hr29, hm30⟩ := bs hm28
          clear hm28
          refine r_c (s_w (o_call ca207 rfl (sketch_Sketch_place.ok b0_ (⟨a0.wide, a0.seed, c_23, a0.door, a0.added⟩ : sketch_Sketch) g0_ a1 s_22 r29 hr29))) ?_
          refine r_u (o_as rfl) ?_
          refine r_nil ?_
          refine x_seq ?_
          refine c_seq ?_
          refine c_reg ?_
          refine r_u (o_mv rfl) ?_
          refine r_u (o_mv rfl) ?_
          refine r_u (o_nc rfl) ?_
          refine r_u (o_fa fa250_2 rfl) ?_
          obtain ⟨y31, hy31, hm33⟩ := bs hm30
          clear hm30
          refine rl_ex (fun w h => st_peek 1 hy31 rfl w h) fun u32 hu32 => ?_
          refine r_u (o_ixA (sz := 1) Tryz.underlying248 (fun _ => by kernel_rfl) rfl rfl (gi_some hu32).1) ?_
          refine r_u (o_ldA (o := 2) (n := 4) 0 sc131 rfl rfl hu32) ?_
          refine r_u (o_mv rfl) ?_
          obtain ⟨x34, hx34, hm35⟩ := bs hm33
          clear hm33
          refine r_u (o_ixK (kn_in 1 rfl hu32 hy31) Tryz.underlying131 (fun _ => by kernel_rfl) rfl rfl hx34) ?_
          refine r_u (o_ldK (kn_in 1 rfl hu32 hy31) 0 sc5 rfl hx34 rfl rfl) ?_
          refine r_u (o_mv rfl) ?_
          refine r_u (o_bin rfl rfl (bY_eq x34 r16)) ?_
          refine r_u (o_mv rfl) ?_
          refine r_s (s_gt rfl rfl fun g => o_mv rfl) ?_
          refine r_s (s_gt rfl rfl fun g => o_bin (evg rfl g) rfl (bY_lt r16 15)) ?_
          refine r_u (o_and rfl rfl) ?_
          refine r_nil ?_
          refine x_seq ?_
          obtain ⟨p36, hp37, hm38⟩ := bs hm35
          refine cd_join (E' := [(0, pt b0_ 0), (1, vS a1), (5, vY r16), (30, vI s_22)]) (L' := Bk b0_ 250 [vI a0.wide, vW a0.seed, g0_.rows.1, g0_.rows.2.1, g0_.rows.2.2.1, g0_.rows.2.2.2, g0_.door, vI a0.added] :: OwL (OwS false 5 1 eY) [g0_.rows.1, g0_.rows.2.1, g0_.rows.2.2.1, g0_.rows.2.2.2] p36 :: OwS true 4 1 eB g0_.door a0.door :: F) ?_ fun K39 => ?_
          · refine x_blk ?_
            refine x_seq ?_
            refine c_reg ?_
            refine r_u (o_bin rfl rfl (bI_add s_22 1)) ?_
            refine r_u (o_mv rfl) ?_
            refine r_nil ?_
            exact x_lp (i64 (s_22 + 1), p36) hm38 ⟨rfl, rfl, rfl, rfl, trivial⟩ (fun _ h => st_pk 3 [0, 1, 2] (by decide) h)
          · refine c_if (b := ((x34 == r16) && decide (r16 < 15))) rfl (fun h40 => ?_) fun h40 => ?_
            · have hm41 := ift hp37 h40
              clear hp37
              refine c_reg ?_
              refine r_u (o_mv rfl) ?_
              refine r_u (o_mv rfl) ?_
              refine r_u (o_nc rfl) ?_
              refine r_u (o_fa fa250_2 rfl) ?_
              refine r_u (o_ixA (sz := 1) Tryz.underlying248 (fun _ => by kernel_rfl) rfl rfl (gi_some hu32).1) ?_
              refine r_u (o_ldA (o := 2) (n := 4) 0 sc131 rfl rfl hu32) ?_
              refine r_u (o_mv rfl) ?_
              refine r_u (o_ixK (kn_in 1 rfl hu32 hy31) Tryz.underlying131 (fun _ => by kernel_rfl) rfl rfl hx34) ?_
              refine r_u (o_ldK (kn_in 1 rfl hu32 hy31) 0 sc5 rfl hx34 rfl rfl) ?_
              refine r_u (o_bin rfl rfl (bY_add x34 1)) ?_
              refine r_u (o_ixK (kn_in 1 rfl hu32 hy31) Tryz.underlying131 (fun _ => by kernel_rfl) rfl rfl hx34) ?_
              refine rl_st (fun _ h => mv1 h) ?_
              refine r_u0 (o_stL (c' := x34 + 1) 0 hu32 hy31 sc5 rfl rfl rfl hx34 rfl rfl rfl) ?_
              refine r_nil ?_
              obtain rfl := Option.some.inj hm41
              exact x_sub K39 ⟨rfl, rfl, rfl, rfl, trivial⟩ (fun _ h => st_pk 3 [1, 0, 2] (by decide) h)
            · have hm41 := iff_ hp37 h40
              clear hp37
              refine c_skip ?_
              obtain rfl := Option.some.inj hm41
              exact x_sub K39 ⟨rfl, rfl, rfl, rfl, trivial⟩ (fun _ h => st_pk 3 [0, 1, 2] (by decide) h)
        · have hm28 := iff_ hm25 h27
          clear hm25
          refine c_exit (x_exit (ks' := _) rfl ?_)
          obtain rfl := Option.some.inj hm28
          exact x_sub K21 ⟨rfl, trivial⟩ (fun _ h => st_pk 3 [0, 1, 2] (by decide) h)

def tiny_Tiny_Miss (a0 : tiny_Tiny) (a1 : Str) : Option tiny_Tiny :=
  if decide ((a1.length : Int) ≤ 64) then om a0.s (none) fun x8 => (sketch_Sketch_Add x8 a1).bind fun r14 => some (⟨a0.most, (some r14), a0.r⟩ : tiny_Tiny) else some a0
theorem tiny_Tiny_Miss.ok {G R F} (b0_ : Nat) (a0 : tiny_Tiny) (g0_ : tiny_Tiny.G) (a1 : Str) (r : tiny_Tiny) (hm : tiny_Tiny_Miss a0 a1 = some r) : CO Tryz.prog 119 [pt b0_ 0, vS a1] G R (Bk b0_ 196 [vI a0.most, g0_.s.1, g0_.r.1] :: rO (sketch_Sketch.op g0_.s.2) g0_.s.1 a0.s :: rO (ring_Rings.op g0_.r.2) g0_.r.1 a0.r :: F)
    (Ret fun u R' L' => u = .tuple #[] ∧ R' = R ∧ L' = Bk b0_ 196 [vI r.most, g0_.s.1, g0_.r.1] :: rO (sketch_Sketch.op g0_.s.2) g0_.s.1 r.s :: rO (ring_Rings.op g0_.r.2) g0_.r.1 r.r :: F) := by
  obtain ⟨⟨pv1, g2⟩, ⟨pv4, g5⟩⟩ := g0_
  unfold tiny_Tiny_Miss at hm
  refine co_ofN (N := 17) Tryz.func119 rfl rfl ?_
  refine c_seq ?_
  refine c_reg ?_
  refine r_u (o_mv rfl) ?_
  refine r_u (o_bin rfl rfl (bP_nep Tryz.underlying142)) ?_
  refine r_u (o_mv rfl) ?_
  refine r_s (s_y rfl rfl rfl (o_mv rfl)) ?_
  refine r_s (s_y rfl rfl rfl (o_lenS Tryz.underlying9 rfl)) ?_
  refine r_s (s_y rfl rfl rfl (o_bin rfl rfl (bI_le (a1.length : Int) 64))) ?_
  refine r_u (o_pt rfl rfl rfl) ?_
  refine r_nil ?_
  refine x_seq ?_
  refine c_if (b := decide ((a1.length : Int) ≤ 64)) rfl (fun h6 => ?_) fun h6 => ?_
  · have hm7 := ift hm h6
    clear hm
    refine cd_st (fun _ h => mv1 h) ?_
    refine cd_opt (fun ho10 => ?_) (fun x8 b9 ho10 => ?_)
    · rintro rfl
      have hm11 := om_n hm7 ho10
      clear hm7
      cases hm11
    · rintro rfl
      have hm11 := om_s hm7 ho10
      clear hm7
      refine cd_st (fun _ h => st_star_o h) ?_
      refine c_reg ?_
      refine r_u (o_mv rfl) ?_
      refine r_u (o_nc rfl) ?_
      refine r_u (o_fa fa196_1 rfl) ?_
      refine r_u (o_ld 3 sc194 rfl rfl rfl) ?_
      refine r_u (o_mv rfl) ?_
      obtain ⟨r14, hr14, hm15⟩ := bs hm11
      clear hm11
      refine r_c (s_w (o_call ca162 rfl (sketch_Sketch_Add.ok b9 x8 g2 a1 r14 hr14))) ?_
      refine r_nil ?_
      refine x_end ?_
      refine ex_st (fun _ h => st_some (f := sketch_Sketch.op g2) (a := r14) (st_star_f (A := sketch_Sketch.fl b9 r14 g2) h)) ?_
      obtain rfl := Option.some.inj hm15
      refine ex_st (fun _ h => st_pk 3 [1, 0, 2] (by decide) h) ?_
      exact x_r0 rfl (Le.refl _) ⟨_, rfl, rfl, rfl, rfl⟩
  · have hm7 := iff_ hm h6
    clear hm
    refine c_skip ?_
    refine x_end ?_
    obtain rfl := Option.some.inj hm7
    exact x_r0 rfl (Le.refl _) ⟨_, rfl, rfl, rfl, rfl⟩

def policy_Policy_Miss (a0 : policy_Policy) (a1 : Str) : Option policy_Policy :=
  if ((policy_Policy_Kind a0) == 2) then om a0.t (none) fun x8 => if ((policy_Policy_Kind (⟨a0.kind, a0.a, (some x8)⟩ : policy_Policy)) == 2) then (tiny_Tiny_Has x8 a1).bind fun r20 => if !r20 then (tiny_Tiny_Miss x8 a1).bind fun r24 => some (⟨a0.kind, a0.a, (some r24)⟩ : policy_Policy) else some a0 else some a0 else some a0
theorem policy_Policy_Miss.ok {G R F} (b0_ : Nat) (a0 : policy_Policy) (g0_ : policy_Policy.G) (a1 : Str) (r : policy_Policy) (hm : policy_Policy_Miss a0 a1 = some r) : CO Tryz.prog 70 [pt b0_ 0, vS a1] G R (Bk b0_ 144 [vI a0.kind, g0_.a.1, g0_.t.1] :: rO (arc_Arc.op g0_.a.2) g0_.a.1 a0.a :: rO (tiny_Tiny.op g0_.t.2) g0_.t.1 a0.t :: F)
    (Ret fun u R' L' => u = .tuple #[] ∧ R' = R ∧ L' = Bk b0_ 144 [vI r.kind, g0_.a.1, g0_.t.1] :: rO (arc_Arc.op g0_.a.2) g0_.a.1 r.a :: rO (tiny_Tiny.op g0_.t.2) g0_.t.1 r.t :: F) := by
  obtain ⟨⟨pv1, g2⟩, ⟨pv4, g5⟩⟩ := g0_
  unfold policy_Policy_Miss at hm
  refine co_ofN (N := 22) Tryz.func70 rfl rfl ?_
  refine c_seq ?_
  refine cd_by ((policy_Policy_Kind a0) == 2) (fun h6 => ?_) fun h6 => ?_
  · have hm7 := ift hm h6
    clear hm
    refine cd_st (fun _ h => mv2 h) ?_
    refine cd_opt (fun ho10 => ?_) (fun x8 b9 ho10 => ?_)
    · rintro rfl
      have hm11 := om_n hm7 ho10
      clear hm7
      cases hm11
    · rintro rfl
      have hm11 := om_s hm7 ho10
      clear hm7
      obtain ⟨⟨pv13, g14⟩, ⟨pv16, g17⟩⟩ := g5
      refine cd_st (fun _ h => st_star_o h) ?_
      refine cd_by ((policy_Policy_Kind (⟨a0.kind, a0.a, (some x8)⟩ : policy_Policy)) == 2) (fun h18 => ?_) fun h18 => ?_
      · have hm19 := ift hm11 h18
        clear hm11
        refine c_reg ?_
        refine r_u (o_mv rfl) ?_
        refine rl_st (fun _ h => st_some (f := tiny_Tiny.op (⟨(pv13, g14), (pv16, g17)⟩ : tiny_Tiny.G)) (a := x8) (st_star_f (A := tiny_Tiny.fl b9 x8 (⟨(pv13, g14), (pv16, g17)⟩ : tiny_Tiny.G)) h)) ?_
        refine rl_st (fun _ h => mv2 (mv2 h)) ?_
        refine r_c (s_w (o_call ca67 rfl (policy_Policy_Kind.ok b0_ (⟨a0.kind, a0.a, (some x8)⟩ : policy_Policy) (⟨(pv1, g2), (pt b9 0, (⟨(pv13, g14), (pv16, g17)⟩ : tiny_Tiny.G))⟩ : policy_Policy.G) _ rfl))) ?_
        refine r_u (o_bin rfl rfl (bI_eq (policy_Policy_Kind (⟨a0.kind, a0.a, (some x8)⟩ : policy_Policy)) 2)) ?_
        refine r_u (o_mv rfl) ?_
        refine r_s (s_y rfl rfl h18 (o_mv rfl)) ?_
        refine r_s (s_y rfl rfl h18 (o_nc rfl)) ?_
        refine r_s (s_y rfl rfl h18 (o_fa fa144_2 rfl)) ?_
        refine r_s (s_y rfl rfl h18 (o_ld 0 sc142 rfl rfl rfl)) ?_
        refine r_s (s_y rfl rfl h18 (o_mv rfl)) ?_
        refine rl_st (fun _ h => mv2 h) ?_
        refine rl_st (fun _ h => st_some_o h) ?_
        refine rl_st (fun _ h => st_star_o h) ?_
        obtain ⟨r20, hr20, hm21⟩ := bs hm19
        clear hm19
        refine r_c (s_yw rfl rfl h18 (o_call ca118 rfl (tiny_Tiny_Has.ok b9 x8 (⟨(pv13, g14), (pv16, g17)⟩ : tiny_Tiny.G) a1 r20 hr20))) ?_
        refine r_s (s_y rfl rfl h18 (o_not rfl)) ?_
        refine r_u (o_pt rfl h18 rfl) ?_
        refine r_nil ?_
        refine x_seq ?_
        refine c_if (b := !r20) rfl (fun h22 => ?_) fun h22 => ?_
        · have hm23 := ift hm21 h22
          clear hm21
          refine c_reg ?_
          refine r_u (o_mv rfl) ?_
          refine r_u (o_nc rfl) ?_
          refine r_u (o_fa fa144_2 rfl) ?_
          refine r_u (o_ld 3 sc142 rfl rfl rfl) ?_
          refine r_u (o_mv rfl) ?_
          obtain ⟨r24, hr24, hm25⟩ := bs hm23
          clear hm23
          refine r_c (s_w (o_call ca119 rfl (tiny_Tiny_Miss.ok b9 x8 (⟨(pv13, g14), (pv16, g17)⟩ : tiny_Tiny.G) a1 r24 hr24))) ?_
          refine r_nil ?_
          refine x_end ?_
          refine ex_st (fun _ h => st_some (f := tiny_Tiny.op (⟨(pv13, g14), (pv16, g17)⟩ : tiny_Tiny.G)) (a := r24) (st_star_f (A := tiny_Tiny.fl b9 r24 (⟨(pv13, g14), (pv16, g17)⟩ : tiny_Tiny.G)) h)) ?_
          obtain rfl := Option.some.inj hm25
          refine ex_st (fun _ h => st_pk 3 [1, 2, 0] (by decide) h) ?_
          exact x_r0 rfl (Le.refl _) ⟨_, rfl, rfl, rfl, rfl⟩
        · have hm23 := iff_ hm21 h22
          clear hm21
          refine c_skip ?_
          refine x_end ?_
          refine ex_st (fun _ h => st_some (f := tiny_Tiny.op (⟨(pv13, g14), (pv16, g17)⟩ : tiny_Tiny.G)) (a := x8) (st_star_f (A := tiny_Tiny.fl b9 x8 (⟨(pv13, g14), (pv16, g17)⟩ : tiny_Tiny.G)) h)) ?_
          refine ex_st (fun _ h => st_back ho10 h) ?_
          obtain rfl := Option.some.inj hm23
          refine ex_st (fun _ h => st_pk 3 [1, 2, 0] (by decide) h) ?_
          exact x_r0 rfl (Le.refl _) ⟨_, rfl, rfl, rfl, rfl⟩
      · have hm19 := iff_ hm11 h18
        clear hm11
        refine c_reg ?_
        refine r_u (o_mv rfl) ?_
        refine rl_st (fun _ h => st_some (f := tiny_Tiny.op (⟨(pv13, g14), (pv16, g17)⟩ : tiny_Tiny.G)) (a := x8) (st_star_f (A := tiny_Tiny.fl b9 x8 (⟨(pv13, g14), (pv16, g17)⟩ : tiny_Tiny.G)) h)) ?_
        refine rl_st (fun _ h => mv2 (mv2 h)) ?_
        refine r_c (s_w (o_call ca67 rfl (policy_Policy_Kind.ok b0_ (⟨a0.kind, a0.a, (some x8)⟩ : policy_Policy) (⟨(pv1, g2), (pt b9 0, (⟨(pv13, g14), (pv16, g17)⟩ : tiny_Tiny.G))⟩ : policy_Policy.G) _ rfl))) ?_
        refine r_u (o_bin rfl rfl (bI_eq (policy_Policy_Kind (⟨a0.kind, a0.a, (some x8)⟩ : policy_Policy)) 2)) ?_
        refine r_u (o_mv rfl) ?_
        refine r_s (s_n rfl rfl h18) ?_
        refine r_s (s_n rfl rfl h18) ?_
        refine r_s (s_n rfl rfl h18) ?_
        refine r_s (s_n rfl rfl h18) ?_
        refine r_s (s_n rfl rfl h18) ?_
        refine r_s (s_n rfl rfl h18) ?_
        refine r_s (s_n rfl rfl h18) ?_
        refine r_u (o_pf rfl h18 rfl) ?_
        refine r_nil ?_
        refine x_seq ?_
        refine c_ff rfl ?_
        refine c_skip ?_
        refine x_end ?_
        refine ex_st (fun _ h => mv2 h) ?_
        refine ex_st (fun _ h => st_back ho10 h) ?_
        obtain rfl := Option.some.inj hm19
        refine ex_st (fun _ h => st_pk 3 [1, 2, 0] (by decide) h) ?_
        exact x_r0 rfl (Le.refl _) ⟨_, rfl, rfl, rfl, rfl⟩
  · have hm7 := iff_ hm h6
    clear hm
    refine c_reg ?_
    refine r_u (o_mv rfl) ?_
    refine r_c (s_w (o_call ca67 rfl (policy_Policy_Kind.ok b0_ a0 (⟨(pv1, g2), (pv4, g5)⟩ : policy_Policy.G) _ rfl))) ?_
    refine r_u (o_bin rfl rfl (bI_eq (policy_Policy_Kind a0) 2)) ?_
    refine r_u (o_mv rfl) ?_
    refine r_s (s_n rfl rfl h6) ?_
    refine r_s (s_n rfl rfl h6) ?_
    refine r_s (s_n rfl rfl h6) ?_
    refine r_s (s_n rfl rfl h6) ?_
    refine r_s (s_n rfl rfl h6) ?_
    refine r_s (s_n rfl rfl h6) ?_
    refine r_s (s_n rfl rfl h6) ?_
    refine r_u (o_pf rfl h6 rfl) ?_
    refine r_nil ?_
    refine x_seq ?_
    refine c_ff rfl ?_
    refine c_skip ?_
    refine x_end ?_
    obtain rfl := Option.some.inj hm7
    exact x_r0 rfl (Le.refl _) ⟨_, rfl, rfl, rfl, rfl⟩

def ring_Rings_is (a0 : ring_Rings) (a1 : Int) : Bool :=
  (decide (0 ≤ a1) && decide (a1 < a0.lists))
theorem ring_Rings_is.ok {G R F} (b0_ : Nat) (a0 : ring_Rings) (g0_ : ring_Rings.G) (a1 : Int) (r : Bool) (hm : ring_Rings_is a0 a1 = r) : CO Tryz.prog 210 [pt b0_ 0, vI a1] G R (Bk b0_ 237 [vI a0.lists, g0_.slots, g0_.free, g0_.at_, g0_.many] :: OwS true 240 4 ring_slot.c g0_.slots a0.slots :: OwS true 3 1 eI g0_.free a0.free :: OwM vS vI g0_.at_ a0.at_ :: OwS true 3 1 eI g0_.many a0.many :: F)
    (Ret fun u R' L' => u = vB r ∧ R' = R ∧ L' = Bk b0_ 237 [vI a0.lists, g0_.slots, g0_.free, g0_.at_, g0_.many] :: OwS true 240 4 ring_slot.c g0_.slots a0.slots :: OwS true 3 1 eI g0_.free a0.free :: OwM vS vI g0_.at_ a0.at_ :: OwS true 3 1 eI g0_.many a0.many :: F) := by
  unfold ring_Rings_is at hm
  refine co_ofN (N := 19) Tryz.func210 rfl rfl ?_
  refine c_seq ?_
  refine c_reg ?_
  refine r_u (o_as rfl) ?_
  refine r_nil ?_
  refine x_seq ?_
  refine c_seq ?_
  refine c_reg ?_
  refine r_u (o_mv rfl) ?_
  refine r_u (o_bin rfl rfl (bP_nep Tryz.underlying191)) ?_
  refine r_u (o_mv rfl) ?_
  refine r_s (s_y rfl rfl rfl (o_mv rfl)) ?_
  refine r_s (s_y rfl rfl rfl (o_bin rfl rfl (bI_ge a1 0))) ?_
  refine r_u (o_pt rfl rfl rfl) ?_
  refine r_u (o_mv rfl) ?_
  refine r_s (s_gt rfl rfl fun g => o_mv rfl) ?_
  refine r_s (s_gt rfl rfl fun g => o_mv rfl) ?_
  refine r_s (s_gt rfl rfl fun g => o_nc (evg rfl g)) ?_
  refine r_s (s_gt rfl rfl fun g => o_fa fa237_0 (evg rfl g)) ?_
  refine r_s (s_gt rfl rfl fun g => o_ld 0 sc3 (evg rfl g) rfl rfl) ?_
  refine r_s (s_gt rfl rfl fun g => o_bin (evg rfl g) (evg rfl g) (bI_lt a1 a0.lists)) ?_
  refine r_u (o_and rfl rfl) ?_
  refine r_u (o_as rfl) ?_
  refine r_nil ?_
  refine x_seq ?_
  refine c_ret ?_
  subst hm
  exact x_r1 rfl (rv_t rfl) (Le.refl _) ⟨_, rfl, rfl, rfl, rfl⟩

end Go.Proofs.YtpanhdnglicknaaGreat
