import Derived.Test.YtpanhdnglicknaaW0
import Derived.Test.YtpanhdnglicknaaFacts
import Derived.Test.YtpanhdnglicknaaHwZ
set_option linter.unusedVariables false
set_option linter.unusedSectionVars false
set_option linter.unusedSimpArgs false
set_option maxRecDepth 100000
set_option maxHeartbeats 8000000
namespace Go.Proofs.Ytpanhdnglicknaa
open Go Go.Proofs.Ytpanhdnglicknaa.Hw
def op_Check (a0 : api_Op) : Bool :=
  if ((decide (64 < (a0.Key.length : Int)) || decide (4096 < (a0.Value.length : Int))) || decide (1073741824 < a0.TTL)) then false else lt (if (a0.Kind == 1) then (a0.Kind == 1) else (a0.Kind == 3)) fun p3 => if p3 then ((((a0.Key != []) && (a0.Value == [])) && (a0.TTL == 0)) && (a0.Version == 0)) else if (a0.Kind == 2) then ((a0.Key != []) && (a0.Version == 0)) else if (a0.Kind == 4) then ((a0.Key != []) && decide (1 ≤ a0.Version)) else if (a0.Kind == 5) then decide (a0 = (⟨5, [], [], 0, 0⟩ : api_Op)) else false
theorem op_Check.ok {G R F} (a0 : api_Op) (r : Bool) (hm : op_Check a0 = r) : CO Try.prog 15 [.agg (api_Op.c a0).toArray] G R (F)
    (Ret fun u R' L' => u = vB r ∧ R' = R ∧ L' = F) := by
  unfold op_Check at hm
  refine co_ofN (N := 66) Try.func15 rfl rfl ?_
  refine c_seq ?_
  refine c_reg ?_
  refine r_new (o_bx (api_Op.c a0) rfl rfl) fun b0 => ?_
  refine r_u (o_as rfl) ?_
  refine r_nil ?_
  refine x_seq ?_
  refine c_seq ?_
  refine c_seq ?_
  refine c_reg ?_
  refine r_u (o_fa fa31_1 rfl) ?_
  refine r_u (o_ld 0 sc9 rfl rfl rfl) ?_
  refine r_u (o_lenS Try.underlying9 rfl) ?_
  refine r_u (o_bin rfl rfl (bI_gt (a0.Key.length : Int) 64)) ?_
  refine r_u (o_mv rfl) ?_
  refine r_s (s_gf rfl rfl fun g => o_fa fa31_2 rfl) ?_
  refine r_s (s_gf rfl rfl fun g => o_ld 0 sc9 (evg rfl g) rfl rfl) ?_
  refine r_s (s_gf rfl rfl fun g => o_lenS Try.underlying9 (evg rfl g)) ?_
  refine r_s (s_gf rfl rfl fun g => o_bin (evg rfl g) rfl (bI_gt (a0.Value.length : Int) 4096)) ?_
  refine r_u (o_or rfl rfl) ?_
  refine r_u (o_mv rfl) ?_
  refine r_s (s_gf rfl rfl fun g => o_fa fa31_3 rfl) ?_
  refine r_s (s_gf rfl rfl fun g => o_ld 0 sc22 (evg rfl g) rfl rfl) ?_
  refine r_s (s_gf rfl rfl fun g => o_bin (evg rfl g) rfl (bW_gt a0.TTL 1073741824)) ?_
  refine r_u (o_or rfl rfl) ?_
  refine r_nil ?_
  refine x_seq ?_
  refine c_if (b := ((decide (64 < (a0.Key.length : Int)) || decide (4096 < (a0.Value.length : Int))) || decide (1073741824 < a0.TTL))) rfl (fun h1 => ?_) fun h1 => ?_
  · have hm2 := ift hm h1
    clear hm
    refine c_seq ?_
    refine c_reg ?_
    refine r_u (o_as rfl) ?_
    refine r_nil ?_
    refine x_seq ?_
    refine c_ret ?_
    subst hm2
    refine ex_st (fun _ h => st_pk 1 [] (by decide) h) ?_
    exact x_r1 rfl (rv_t rfl) (Le.refl _) ⟨_, rfl, rfl, rfl, rfl⟩
  · have hm2 := iff_ hm h1
    clear hm
    refine c_skip ?_
    refine x_seq ?_
    refine c_seq ?_
    refine c_seq ?_
    refine c_reg ?_
    refine r_u (o_fa fa31_0 rfl) ?_
    refine r_u (o_ld 0 sc3 rfl rfl rfl) ?_
    refine r_nil ?_
    refine x_seq ?_
    refine c_blk ?_
    refine c_seq ?_
    refine c_seq ?_
    refine c_reg ?_
    refine r_u (o_bin rfl rfl (bI_eq a0.Kind 1)) ?_
    refine r_u (o_as rfl) ?_
    refine r_nil ?_
    refine x_seq ?_
    obtain ⟨p3, hp4, hm5⟩ := ltx hm2
    refine cd_join (E' := [(1, pt b0 0), (19, vI a0.Kind), (20, vB p3)]) (L' := Bk b0 31 (api_Op.c a0) :: F) ?_ fun K6 => ?_
    · refine x_seq ?_
      refine c_if (b := p3) rfl (fun h7 => ?_) fun h7 => ?_
      · have hm8 := ift hm5 h7
        clear hm5
        refine c_seq ?_
        refine c_reg ?_
        refine r_u (o_fa fa31_1 rfl) ?_
        refine r_u (o_ld 0 sc9 rfl rfl rfl) ?_
        refine r_u (o_bin rfl rfl (bS_ne a0.Key [])) ?_
        refine r_u (o_mv rfl) ?_
        refine r_s (s_gt rfl rfl fun g => o_fa fa31_2 rfl) ?_
        refine r_s (s_gt rfl rfl fun g => o_ld 0 sc9 (evg rfl g) rfl rfl) ?_
        refine r_s (s_gt rfl rfl fun g => o_bin (evg rfl g) rfl (bS_eq a0.Value [])) ?_
        refine r_u (o_and rfl rfl) ?_
        refine r_u (o_mv rfl) ?_
        refine r_s (s_gt rfl rfl fun g => o_fa fa31_3 rfl) ?_
        refine r_s (s_gt rfl rfl fun g => o_ld 0 sc22 (evg rfl g) rfl rfl) ?_
        refine r_s (s_gt rfl rfl fun g => o_bin (evg rfl g) rfl (bW_eq a0.TTL 0)) ?_
        refine r_u (o_and rfl rfl) ?_
        refine r_u (o_mv rfl) ?_
        refine r_s (s_gt rfl rfl fun g => o_fa fa31_4 rfl) ?_
        refine r_s (s_gt rfl rfl fun g => o_ld 0 sc22 (evg rfl g) rfl rfl) ?_
        refine r_s (s_gt rfl rfl fun g => o_bin (evg rfl g) rfl (bW_eq a0.Version 0)) ?_
        refine r_u (o_and rfl rfl) ?_
        refine r_u (o_as rfl) ?_
        refine r_nil ?_
        refine x_seq ?_
        refine c_ret ?_
        subst hm8
        refine ex_st (fun _ h => st_pk 1 [] (by decide) h) ?_
        exact x_r1 rfl (rv_t rfl) (Le.refl _) ⟨_, rfl, rfl, rfl, rfl⟩
      · have hm8 := iff_ hm5 h7
        clear hm5
        refine c_seq ?_
        refine c_reg ?_
        refine r_u (o_bin rfl rfl (bI_eq a0.Kind 2)) ?_
        refine r_u (o_as rfl) ?_
        refine r_nil ?_
        refine x_seq ?_
        refine c_if (b := (a0.Kind == 2)) rfl (fun h9 => ?_) fun h9 => ?_
        · have hm10 := ift hm8 h9
          clear hm8
          refine c_seq ?_
          refine c_reg ?_
          refine r_u (o_fa fa31_1 rfl) ?_
          refine r_u (o_ld 0 sc9 rfl rfl rfl) ?_
          refine r_u (o_bin rfl rfl (bS_ne a0.Key [])) ?_
          refine r_u (o_mv rfl) ?_
          refine r_s (s_gt rfl rfl fun g => o_fa fa31_4 rfl) ?_
          refine r_s (s_gt rfl rfl fun g => o_ld 0 sc22 (evg rfl g) rfl rfl) ?_
          refine r_s (s_gt rfl rfl fun g => o_bin (evg rfl g) rfl (bW_eq a0.Version 0)) ?_
          refine r_u (o_and rfl rfl) ?_
          refine r_u (o_as rfl) ?_
          refine r_nil ?_
          refine x_seq ?_
          refine c_ret ?_
          subst hm10
          refine ex_st (fun _ h => st_pk 1 [] (by decide) h) ?_
          exact x_r1 rfl (rv_t rfl) (Le.refl _) ⟨_, rfl, rfl, rfl, rfl⟩
        · have hm10 := iff_ hm8 h9
          clear hm8
          refine c_seq ?_
          refine c_reg ?_
          refine r_u (o_bin rfl rfl (bI_eq a0.Kind 4)) ?_
          refine r_u (o_as rfl) ?_
          refine r_nil ?_
          refine x_seq ?_
          refine c_if (b := (a0.Kind == 4)) rfl (fun h11 => ?_) fun h11 => ?_
          · have hm12 := ift hm10 h11
            clear hm10
            refine c_seq ?_
            refine c_reg ?_
            refine r_u (o_fa fa31_1 rfl) ?_
            refine r_u (o_ld 0 sc9 rfl rfl rfl) ?_
            refine r_u (o_bin rfl rfl (bS_ne a0.Key [])) ?_
            refine r_u (o_mv rfl) ?_
            refine r_s (s_gt rfl rfl fun g => o_fa fa31_4 rfl) ?_
            refine r_s (s_gt rfl rfl fun g => o_ld 0 sc22 (evg rfl g) rfl rfl) ?_
            refine r_s (s_gt rfl rfl fun g => o_bin (evg rfl g) rfl (bW_ge a0.Version 1)) ?_
            refine r_u (o_and rfl rfl) ?_
            refine r_u (o_as rfl) ?_
            refine r_nil ?_
            refine x_seq ?_
            refine c_ret ?_
            subst hm12
            refine ex_st (fun _ h => st_pk 1 [] (by decide) h) ?_
            exact x_r1 rfl (rv_t rfl) (Le.refl _) ⟨_, rfl, rfl, rfl, rfl⟩
          · have hm12 := iff_ hm10 h11
            clear hm10
            refine c_seq ?_
            refine c_reg ?_
            refine r_u (o_bin rfl rfl (bI_eq a0.Kind 5)) ?_
            refine r_u (o_as rfl) ?_
            refine r_nil ?_
            refine x_seq ?_
            refine c_if (b := (a0.Kind == 5)) rfl (fun h13 => ?_) fun h13 => ?_
            · have hm14 := ift hm12 h13
              clear hm12
              refine c_seq ?_
              refine c_reg ?_
              refine r_u (o_ldn 0 (api_Op.c a0) ag31 rfl rfl rfl rfl) ?_
              refine r_u (o_bld [vI 5, vS [], vS [], vW 0, vW 0] rfl (fun _ => by kernel_rfl)) ?_
              refine r_u (o_bin rfl rfl (api_Op.beq_31 a0 (⟨5, [], [], 0, 0⟩ : api_Op))) ?_
              refine r_u (o_as rfl) ?_
              refine r_nil ?_
              refine x_seq ?_
              refine c_ret ?_
              subst hm14
              refine ex_st (fun _ h => st_pk 1 [] (by decide) h) ?_
              exact x_r1 rfl (rv_t rfl) (Le.refl _) ⟨_, rfl, rfl, rfl, rfl⟩
            · have hm14 := iff_ hm12 h13
              clear hm12
              refine c_skip ?_
              refine x_blk ?_
              refine x_seq ?_
              refine c_seq ?_
              refine c_reg ?_
              refine r_u (o_as rfl) ?_
              refine r_nil ?_
              refine x_seq ?_
              refine c_ret ?_
              subst hm14
              refine ex_st (fun _ h => st_pk 1 [] (by decide) h) ?_
              exact x_r1 rfl (rv_t rfl) (Le.refl _) ⟨_, rfl, rfl, rfl, rfl⟩
    · refine c_if (b := (a0.Kind == 1)) rfl (fun h15 => ?_) fun h15 => ?_
      · have hm16 := ift hp4 h15
        clear hp4
        refine c_skip ?_
        subst hm16
        exact x_sub K6 ⟨rfl, rfl, rfl, trivial⟩ (fun _ h => st_pk 1 [0] (by decide) h)
      · have hm16 := iff_ hp4 h15
        clear hp4
        refine c_reg ?_
        refine r_u (o_bin rfl rfl (bI_eq a0.Kind 3)) ?_
        refine r_u (o_as rfl) ?_
        refine r_nil ?_
        subst hm16
        exact x_sub K6 ⟨rfl, rfl, rfl, trivial⟩ (fun _ h => st_pk 1 [0] (by decide) h)

open Go.Shelf Go.Proofs in
def Try.keysL_ren : Go.Shelf.Ren := ⟨fun | 7 => 34 | 10 => 51 | n => n, fun | 23 => 77 | 26 => 9 | 3 => 44 | 28 => 86 | 0 => 0 | 27 => 85 | 33 => 61 | 4 => 4 | n => n, fun | n => n⟩
theorem Try.keysL : Go.Proofs.SlLaysZ.n7 Try.prog Try.keysL_ren := {
  mixed := by kernel_rfl
  f7 := ⟨Try.f34.name, by decide, Try.func34.trans (congrArg some (by kernel_rfl))⟩
  f10 := ⟨Try.f51.name, by decide, Try.func51.trans (congrArg some (by kernel_rfl))⟩
  t0 := Try.underlying0
  a0 := Try.isAgg0
  z0 := Try.sizeOf0
  v0 := Try.zeroValue0
  t4 := Try.underlying4
  a4 := Try.isAgg4
  z4 := Try.sizeOf4
  v4 := Try.zeroValue4
  t23 := Try.underlying77
  a23 := Try.isAgg77
  z23 := Try.sizeOf77
  v23 := Try.zeroValue77
  t26 := Try.underlying9
  a26 := Try.isAgg9
  z26 := Try.sizeOf9
  v26 := Try.zeroValue9
  t27 := Try.underlying85
  a27 := Try.isAgg85
  z27 := Try.sizeOf85
  v27 := Try.zeroValue85
  t28 := Try.underlying86
  a28 := Try.isAgg86
  z28 := Try.sizeOf86
  v28 := Try.zeroValue86
  t33 := Try.underlying61
  a33 := Try.isAgg61
  z33 := Try.sizeOf61
  v33 := Try.zeroValue61 }
def Try.sortedL_ren : Go.Shelf.Ren := ⟨fun | 6 => 33 | 8 => 49 | 9 => 50 | 11 => 63 | 13 => 65 | 12 => 64 | 23 => 87 | 24 => 88 | 14 => 78 | 15 => 79 | 16 => 80 | 17 => 81 | 18 => 82 | 19 => 83 | 20 => 84 | 21 => 85 | 22 => 86 | 25 => 91 | 26 => 92 | 27 => 93 | 28 => 94 | 29 => 95 | 30 => 96 | 31 => 99 | n => n, fun | 26 => 9 | 28 => 86 | 24 => 59 | 0 => 0 | 3 => 3 | 37 => 127 | 48 => 145 | 50 => 22 | 4 => 4 | 40 => 138 | 39 => 137 | 45 => 117 | 5 => 5 | 9 => 9 | 51 => 149 | 55 => 152 | 57 => 157 | 58 => 158 | 33 => 61 | n => n, fun | n => n⟩
theorem Try.sortedL : Go.Proofs.SlLaysZ.n6 Try.prog Try.sortedL_ren := {
  mixed := by kernel_rfl
  f6 := ⟨Try.f33.name, by decide, Try.func33.trans (congrArg some (by kernel_rfl))⟩
  f8 := ⟨Try.f49.name, by decide, Try.func49.trans (congrArg some (by kernel_rfl))⟩
  f11 := ⟨Try.f63.name, by decide, Try.func63.trans (congrArg some (by kernel_rfl))⟩
  t0 := Try.underlying0
  a0 := Try.isAgg0
  z0 := Try.sizeOf0
  v0 := Try.zeroValue0
  t24 := Try.underlying59
  a24 := Try.isAgg59
  z24 := Try.sizeOf59
  v24 := Try.zeroValue59
  t26 := Try.underlying9
  a26 := Try.isAgg9
  z26 := Try.sizeOf9
  v26 := Try.zeroValue9
  t28 := Try.underlying86
  a28 := Try.isAgg86
  z28 := Try.sizeOf86
  v28 := Try.zeroValue86
  i26 := by kernel_rfl }
def Try.sortL_ren : Go.Shelf.Ren := ⟨fun | 6 => 50 | 8 => 65 | 9 => 64 | 19 => 87 | 20 => 88 | 21 => 78 | 22 => 79 | 23 => 80 | 24 => 81 | 25 => 82 | 26 => 83 | 27 => 84 | 28 => 85 | 29 => 86 | 36 => 91 | 31 => 92 | 32 => 93 | 37 => 94 | 38 => 95 | 39 => 96 | 41 => 99 | n => n, fun | 27 => 59 | 29 => 9 | 3 => 3 | 32 => 127 | 26 => 59 | 0 => 0 | 44 => 145 | 46 => 22 | 4 => 4 | 36 => 138 | 35 => 137 | 41 => 117 | 5 => 5 | 9 => 9 | 53 => 149 | 57 => 152 | 63 => 157 | 64 => 158 | n => n, fun | n => n⟩
theorem Try.sortL : Go.Proofs.SlLaysM.n6 Try.prog Try.sortL_ren := {
  mixed := by kernel_rfl
  f6 := ⟨Try.f50.name, by decide, Try.func50.trans (congrArg some (by kernel_rfl))⟩
  f8 := Try.func65.trans (congrArg some (by kernel_rfl))
  f9 := ⟨Try.f64.name, by decide, Try.func64.trans (congrArg some (by kernel_rfl))⟩
  f19 := Try.func87.trans (congrArg some (by kernel_rfl))
  f20 := Try.func88.trans (congrArg some (by kernel_rfl))
  f21 := ⟨Try.f78.name, by decide, Try.func78.trans (congrArg some (by kernel_rfl))⟩
  f22 := ⟨Try.f79.name, by decide, Try.func79.trans (congrArg some (by kernel_rfl))⟩
  f23 := ⟨Try.f80.name, by decide, Try.func80.trans (congrArg some (by kernel_rfl))⟩
  f24 := ⟨Try.f81.name, by decide, Try.func81.trans (congrArg some (by kernel_rfl))⟩
  f25 := ⟨Try.f82.name, by decide, Try.func82.trans (congrArg some (by kernel_rfl))⟩
  f26 := ⟨Try.f83.name, by decide, Try.func83.trans (congrArg some (by kernel_rfl))⟩
  f27 := ⟨Try.f84.name, by decide, Try.func84.trans (congrArg some (by kernel_rfl))⟩
  f28 := ⟨Try.f85.name, by decide, Try.func85.trans (congrArg some (by kernel_rfl))⟩
  f29 := ⟨Try.f86.name, by decide, Try.func86.trans (congrArg some (by kernel_rfl))⟩
  f31 := Try.func92.trans (congrArg some (by kernel_rfl))
  f32 := Try.func93.trans (congrArg some (by kernel_rfl))
  f36 := ⟨Try.f91.name, by decide, Try.func91.trans (congrArg some (by kernel_rfl))⟩
  f37 := ⟨Try.f94.name, by decide, Try.func94.trans (congrArg some (by kernel_rfl))⟩
  f38 := ⟨Try.f95.name, by decide, Try.func95.trans (congrArg some (by kernel_rfl))⟩
  f39 := ⟨Try.f96.name, by decide, Try.func96.trans (congrArg some (by kernel_rfl))⟩
  f41 := ⟨Try.f99.name, by decide, Try.func99.trans (congrArg some (by kernel_rfl))⟩
  t0 := Try.underlying0
  a0 := Try.isAgg0
  z0 := Try.sizeOf0
  v0 := Try.zeroValue0
  t3 := Try.underlying3
  a3 := Try.isAgg3
  z3 := Try.sizeOf3
  v3 := Try.zeroValue3
  t4 := Try.underlying4
  a4 := Try.isAgg4
  z4 := Try.sizeOf4
  v4 := Try.zeroValue4
  t5 := Try.underlying5
  a5 := Try.isAgg5
  z5 := Try.sizeOf5
  v5 := Try.zeroValue5
  t9 := Try.underlying9
  a9 := Try.isAgg9
  z9 := Try.sizeOf9
  v9 := Try.zeroValue9
  t26 := Try.underlying59
  a26 := Try.isAgg59
  z26 := Try.sizeOf59
  v26 := Try.zeroValue59
  t27 := Try.underlying59
  a27 := Try.isAgg59
  z27 := Try.sizeOf59
  v27 := Try.zeroValue59
  t29 := Try.underlying9
  a29 := Try.isAgg9
  z29 := Try.sizeOf9
  v29 := Try.zeroValue9
  t32 := Try.underlying127
  a32 := Try.isAgg127
  z32 := Try.sizeOf127
  v32 := Try.zeroValue127
  t35 := Try.underlying137
  a35 := Try.isAgg137
  z35 := Try.sizeOf137
  v35 := Try.zeroValue137
  t36 := Try.underlying138
  a36 := Try.isAgg138
  z36 := Try.sizeOf138
  v36 := Try.zeroValue138
  t41 := Try.underlying117
  a41 := Try.isAgg117
  z41 := Try.sizeOf117
  v41 := Try.zeroValue117
  t44 := Try.underlying145
  a44 := Try.isAgg145
  z44 := Try.sizeOf145
  v44 := Try.zeroValue145
  t46 := Try.underlying22
  a46 := Try.isAgg22
  z46 := Try.sizeOf22
  v46 := Try.zeroValue22
  t53 := Try.underlying149
  a53 := Try.isAgg149
  z53 := Try.sizeOf149
  v53 := Try.zeroValue149
  t57 := Try.underlying152
  a57 := Try.isAgg152
  z57 := Try.sizeOf152
  v57 := Try.zeroValue152
  t63 := Try.underlying157
  a63 := Try.isAgg157
  z63 := Try.sizeOf157
  v63 := Try.zeroValue157
  t64 := Try.underlying158
  a64 := Try.isAgg158
  z64 := Try.sizeOf158
  v64 := Try.zeroValue158 }
def Try.delL_ren : Go.Shelf.Ren := ⟨fun | 10 => 24 | 6 => 38 | n => n, fun | 22 => 59 | 23 => 9 | 25 => 61 | 3 => 3 | 4 => 4 | 0 => 0 | n => n, fun | n => n⟩
theorem Try.delL : Go.Proofs.SlLaysH.n10 Try.prog Try.delL_ren := {
  mixed := by kernel_rfl
  f6 := ⟨Try.f38.name, by decide, Try.func38.trans (congrArg some (by kernel_rfl))⟩
  f10 := ⟨Try.f24.name, by decide, Try.func24.trans (congrArg some (by kernel_rfl))⟩
  t0 := Try.underlying0
  a0 := Try.isAgg0
  z0 := Try.sizeOf0
  v0 := Try.zeroValue0
  t3 := Try.underlying3
  a3 := Try.isAgg3
  z3 := Try.sizeOf3
  v3 := Try.zeroValue3
  t4 := Try.underlying4
  a4 := Try.isAgg4
  z4 := Try.sizeOf4
  v4 := Try.zeroValue4
  t22 := Try.underlying59
  a22 := Try.isAgg59
  z22 := Try.sizeOf59
  v22 := Try.zeroValue59
  a23 := Try.isAgg9
  z23 := Try.sizeOf9
  t25 := Try.underlying61
  a25 := Try.isAgg61
  z25 := Try.sizeOf61
  v25 := Try.zeroValue61 }

open Go.Proofs in
/-- slices.Sort's two contracts. -/
theorem sortsL (m : Nat) : AnyZ.SortsIn Try.prog Try.sortedL_ren Fence.wide m :=
  ⟨fun blk off cap ss W hH hblk hsz => callsIn_wide.2 (AnyM.slices_Sort_string Try.sortL blk off cap ss W hH hblk hsz), fun p cap W => callsIn_wide.2 (AnyM.slices_Sort_string_none Try.sortL p cap W)⟩
open Go.Proofs in
theorem mkeysL {G R} {F : List HP} {V : Type} {vv : V → Value} {v : Value} {m : List (Str × V)} : CO Try.prog 34 [v] G R (OwM vS vv v m :: F) (Ret fun u R' L' => ∃ b, u = .func (.func 51) #[] #[pt b 0] ∧ R' = R ∧ L' = Bk b 77 [v] :: OwM vS vv v m :: F) :=
  co_mkeys fun mb w => AnyZ.keys_in Try.keysL Fence.wide 5 trivial rfl mb w
open Go.Proofs in
theorem sortedL {G R} {F : List HP} {V : Type} {vv : V → Value} {v : Value} {m : List (Str × V)} {b : Nat} {r : List Str} (hm : mkeys m = some r) : CO Try.prog 33 [.func (.func 51) #[] #[pt b 0]] G R (Bk b 77 [v] :: OwM vS vv v m :: F) (Ret fun u R' L' => R' = R ∧ L' = OwS true 9 1 eS u r :: Bk b 77 [v] :: OwM vS vv v m :: F) :=
  co_sorted Try.underlying9 (fun b r nn D w hb hc hown h1 h2 => AnyZ.sorted_in Try.sortedL Fence.wide 5 trivial trivial trivial trivial rfl (by omega) (sortsL _) (enters_of Try.func50 (by kernel_rfl) rfl) 51 #[.pointer (some ⟨b, 0, none⟩)] trivial (enters_of Try.func51 (by kernel_rfl) rfl) _ _ h1 h2 _
    (AnyZ.keys_gives (ρ := Try.keysL_ren) { Try.keysL with } Fence.wide _ trivial rfl (by omega) b r nn D w hb hc hown)) hm
def table_Table_Keys (a0 : table_Table) : Option (List Str) := mkeys a0.m
theorem table_Table_Keys.ok {G R F} (b0_ : Nat) (a0 : table_Table) (g0_ : table_Table.G) (r : List Str) (hm : table_Table_Keys a0 = some r) : CO Try.prog 20 [pt b0_ 0] G R (Bk b0_ 79 [g0_.m, vI a0.bytes] :: OwM vS api_Entry.v g0_.m a0.m :: F)
    (Ret fun u R' L' => ∃ p0, u = p0 ∧ R' = R ∧ L' = OwS true 9 1 eS p0 r :: Bk b0_ 79 [g0_.m, vI a0.bytes] :: OwM vS api_Entry.v g0_.m a0.m :: F) := by
  unfold table_Table_Keys at hm
  refine co_ofN (N := 11) Try.func20 rfl rfl ?_
  refine c_seq ?_
  refine c_reg ?_
  refine r_u (o_as rfl) ?_
  refine r_nil ?_
  refine x_seq ?_
  refine c_seq ?_
  refine c_seq ?_
  refine c_reg ?_
  refine r_u (o_mv rfl) ?_
  refine r_u (o_bin rfl rfl (bP_eqp Try.underlying51)) ?_
  refine r_nil ?_
  refine x_seq ?_
  refine c_ff rfl ?_
  refine c_skip ?_
  refine x_seq ?_
  refine c_seq ?_
  refine c_reg ?_
  refine r_u (o_mv rfl) ?_
  refine r_u (o_nc rfl) ?_
  refine r_u (o_fa fa79_0 rfl) ?_
  refine r_u (o_ld 0 sc77 rfl rfl rfl) ?_
  refine rl_st (fun _ h => st_pk 2 [1, 0] (by decide) h) ?_
  refine r_sw (s_w (o_call ca34 rfl mkeysL)) ?_
  rintro _ R _ _ ⟨b3, rfl, rfl, rfl⟩
  refine r_sw (s_w (o_call ca33 rfl (sortedL hm))) ?_
  rintro v1 R _ _ ⟨rfl, rfl⟩
  refine r_u (o_as rfl) ?_
  refine r_nil ?_
  refine x_seq ?_
  refine c_ret ?_
  refine ex_st (fun _ h => st_pk 4 [0, 3, 2] (by decide) h) ?_
  exact x_r1 rfl (rv_t rfl) (Le.refl _) ⟨_, rfl, v1, rfl, rfl, rfl⟩


/-- Does an entry stay, at a tick? -/
def endp (m : List (Str × api_Entry)) (now : UInt64) (x : Str) : Bool := (((mget m x).getD ((⟨[], [], 0, 0⟩ : api_Entry) : api_Entry)).End.toNat == 0) || decide (now.toNat < ((mget m x).getD ((⟨[], [], 0, 0⟩ : api_Entry) : api_Entry)).End.toNat)
open Go.Shelf Go.RowKit Go.Lib Go.Sort Go.Proofs in
theorem endedCloW (b1 b2 b0 r : Nat) (now e : Int) (x : List UInt8) (k0 v0 : Value) (n0 : Int) (W : World) (h1 : W.cell? ⟨b1, 0, none⟩ = some (.pointer (some ⟨b0, 0, none⟩))) (h2 : W.cell? ⟨b2, 0, none⟩ = some (.int .u64 now)) (h3 : W.cell? ⟨b0, 0, none⟩ = some (.map (some r)))
    (hl : (Instr.lookup 77 (.map (some r)) (encStr x) false).run Try.prog W = .ok (.agg #[k0, v0, .int .u64 n0, .int .u64 e]) W) (hf : (Instr.field 44 (.agg #[k0, v0, .int .u64 n0, .int .u64 e]) 3).run Try.prog W = .ok (.int .u64 e) W) (p : Bool) (hp : p = (e == 0 || decide (now < e))) :
    FnGives Try.prog 25 #[.pointer (some ⟨b1, 0, none⟩), .pointer (some ⟨b2, 0, none⟩)] #[encStr x] (.bool p) W := by
  show Calls Try.prog 25 #[encStr x, .pointer (some ⟨b1, 0, none⟩), .pointer (some ⟨b2, 0, none⟩)] W _
  go_enter Try.func25, Try.ntmps25
  go_wp2
  all_goals (go_ret; exact ⟨by simp_all, 0, rfl⟩)
open Go.Proofs in
theorem endedClo (b1 b2 b0 : Nat) (gm y : Value) (now : UInt64) (m : List (Str × api_Entry)) (W : World) (x : Str) (h : HasL [Bk b1 51 [pt b0 0], Bk b2 22 [vW now], Bk b0 79 [gm, y], OwM vS api_Entry.v gm m] W) :
    FnGives Try.prog 25 #[pt b1 0, pt b2 0] #[encStr x] (.bool (endp m now x)) W := by
  obtain ⟨k1, p1, q1⟩ := h 0 _ rfl
  obtain ⟨k2, p2, q2⟩ := h 1 _ rfl
  obtain ⟨k0, p0, q0⟩ := h 2 _ rfl
  obtain ⟨km, ⟨r, es, clock, rfl, pm, he, _⟩, qm⟩ := h 3 _ rfl
  have c1 := q1 _ _ p1
  have c2 := q2 _ _ p2
  have c0 := q0 _ _ p0
  have cm := qm _ _ pm
  have hl := run_lk (P := Try.prog) (t := 77) (k := 9) (e := 44) Try.underlying77 (kok_S Try.underlying9) (z0 := ((⟨[], [], 0, 0⟩ : api_Entry) : api_Entry)) (fun _ => by kernel_rfl) cm he x
  exact endedCloW b1 b2 b0 r now.toNat _ x _ _ _ W (by simp [World.cell?, c1, pt]) (by simp [World.cell?, c2, vW]) (by simp [World.cell?, c0]) hl (by kernel_rfl) _ (by rw [Bool.eq_iff_iff]; unfold endp; simp only [Bool.or_eq_true, beq_iff_eq, decide_eq_true_eq]; omega)
theorem idxNil {G R} {F : List HP} {fv : Value} : CO Try.prog 38 [.slice none 0 0, fv] G R F (Ret fun u R' L' => u = vI (-1) ∧ R' = R ∧ L' = F) := by
  refine co_ofN (N := 19) Try.func38 rfl rfl ?_
  refine c_seq <| c_reg <| r_u (o_as rfl) <| r_nil <| x_seq <| c_seq <| c_seq <| c_reg <| r_u (o_mv rfl) <| r_u (o_lenN Try.underlying59 rfl) <| r_u (o_mv rfl) <| r_nil <| x_seq <| c_blk ?_
  refine cd_loop (σ := Unit) (M := fun k _ => k = 1) (Ef := fun _ => [(7, vI 0), (8, vI 0)]) (Lf := fun _ => F) 1 () rfl ⟨rfl, rfl, trivial⟩ (fun _ h => h) (fun _ h => by cases h) ?_
  intro k s hk
  refine c_seq <| c_reg <| r_u (o_bin rfl rfl (bI_lt 0 0)) <| r_nil <| x_seq <| c_seq <| c_ff rfl ?_
  refine c_exit (x_exit (ks' := _) rfl ?_)
  refine x_seq <| c_seq <| c_reg <| r_u (o_as rfl) <| r_nil <| x_seq <| c_ret ?_
  exact x_r1 rfl (rv_t rfl) (Le.refl _) ⟨_, rfl, rfl, rfl, rfl⟩
theorem delNil {G R} {F : List HP} {fv : Value} : CO Try.prog 24 [.slice none 0 0, fv] G R F (Ret fun u R' L' => u = .slice none 0 0 ∧ R' = R ∧ L' = F) := by
  refine co_ofN (N := 42) Try.func24 rfl rfl ?_
  refine c_seq <| c_reg <| r_u (o_as rfl) <| r_nil <| x_seq <| c_seq <| c_reg <| r_u (o_mv rfl) <| r_u (o_mv rfl) ?_
  refine r_c (s_w (o_call ca38 rfl idxNil)) ?_
  refine r_u (o_as rfl) <| r_nil <| x_seq <| c_seq <| c_seq <| c_reg <| r_u (o_mv rfl) <| r_u (o_bin rfl rfl (bI_eq (-1) (-1))) <| r_nil <| x_seq <| c_tt rfl ?_
  refine c_seq <| c_reg <| r_u (o_mv rfl) <| r_u (o_as rfl) <| r_nil <| x_seq <| c_ret ?_
  exact x_r1 rfl (rv_t rfl) (Le.refl _) ⟨_, rfl, rfl, rfl, rfl⟩
open Go.Proofs in
theorem delC {G R} {F : List HP} {b1 b2 b0 : Nat} {gm y v : Value} {now : UInt64} {m : List (Str × api_Entry)} {ks : List Str} :
    CO Try.prog 24 [v, .func (.func 25) #[] #[pt b1 0, pt b2 0]] G R (OwS true 9 1 eS v ks :: Bk b1 51 [pt b0 0] :: Bk b2 22 [vW now] :: Bk b0 79 [gm, y] :: OwM vS api_Entry.v gm m :: F)
      (Ret fun u R' L' => R' = R ∧ L' = OwS true 9 1 eS u (ks.filter fun x => !endp m now x) :: Bk b1 51 [pt b0 0] :: Bk b2 22 [vW now] :: Bk b0 79 [gm, y] :: OwM vS api_Entry.v gm m :: F) :=
  co_del (A := [Bk b1 51 [pt b0 0], Bk b2 22 [vW now], Bk b0 79 [gm, y], OwM vS api_Entry.v gm m]) (lb := [pt b1 0, pt b2 0]) (fun W x h => endedClo b1 b2 b0 gm y now m W x h) delNil
    fun blk off cap d w hp hpo hH h1 h2 => AnyE.slices_DeleteFunc Try.delL encStr (fun _ => rfl) _ 25 _ (enters_of Try.func25 (by kernel_rfl) rfl) [] Try.zeroValue9 blk off cap d w hp hpo hH h1 h2
def table_Table_Ended (a0 : table_Table) (a1 : UInt64) : Option (List Str) := (mkeys a0.m).bind fun l => some (l.filter fun x => !endp a0.m a1 x)
theorem table_Table_Ended.ok {G R F} (b0_ : Nat) (a0 : table_Table) (g0_ : table_Table.G) (a1 : UInt64) (r : List Str) (hm : table_Table_Ended a0 a1 = some r) : CO Try.prog 16 [pt b0_ 0, vW a1] G R (Bk b0_ 79 [g0_.m, vI a0.bytes] :: OwM vS api_Entry.v g0_.m a0.m :: F)
    (Ret fun u R' L' => ∃ p0, u = p0 ∧ R' = R ∧ L' = OwS true 9 1 eS p0 r :: Bk b0_ 79 [g0_.m, vI a0.bytes] :: OwM vS api_Entry.v g0_.m a0.m :: F) := by
  unfold table_Table_Ended at hm
  refine co_ofN (N := 9) Try.func16 rfl rfl ?_
  refine c_seq ?_
  refine c_reg ?_
  refine r_new (o_bx [pt b0_ 0] rfl rfl) fun b1 => ?_
  refine r_new (o_bx [vW a1] rfl rfl) fun b2 => ?_
  refine r_u (o_as rfl) ?_
  refine r_nil ?_
  refine x_seq ?_
  refine c_seq ?_
  refine c_reg ?_
  refine r_u (o_ld 1 sc51 rfl rfl rfl) ?_
  obtain ⟨r3, hr3, hm5⟩ := bs hm
  clear hm
  refine rl_st (fun _ h => st_pk 4 [2, 3, 0, 1] (by decide) h) ?_
  refine r_sw (s_w (o_call ca20 rfl (table_Table_Keys.ok b0_ a0 g0_ r3 hr3))) ?_
  rintro v4 R _ _ ⟨_, rfl, rfl, rfl⟩
  refine r_u (o_mf (vs := [pt b1 0, pt b2 0]) rfl) ?_
  refine rl_st (fun _ h => st_pk 5 [0, 4, 3, 1, 2] (by decide) h) ?_
  refine r_sw (s_w (o_call ca24 rfl delC)) ?_
  rintro v5 R _ _ ⟨rfl, rfl⟩
  refine r_u (o_as rfl) ?_
  refine r_nil ?_
  refine x_seq ?_
  refine c_ret ?_
  obtain rfl := Option.some.inj hm5
  refine ex_st (fun _ h => st_pk 5 [0, 3, 4] (by decide) h) ?_
  exact x_r1 rfl (rv_t rfl) (Le.refl _) ⟨_, rfl, v5, rfl, rfl, rfl⟩


def table_Table_Get (a0 : table_Table) (a1 : Str) : api_Entry × Bool :=
  (((mget a0.m a1).getD ((⟨[], [], 0, 0⟩ : api_Entry) : api_Entry)), (mget a0.m a1).isSome)
theorem table_Table_Get.ok {G R F} (b0_ : Nat) (a0 : table_Table) (g0_ : table_Table.G) (a1 : Str) (r : api_Entry × Bool) (hm : table_Table_Get a0 a1 = r) : CO Try.prog 21 [pt b0_ 0, vS a1] G R (Bk b0_ 79 [g0_.m, vI a0.bytes] :: OwM vS api_Entry.v g0_.m a0.m :: F)
    (Ret fun u R' L' => u = .tuple #[.agg (api_Entry.c r.1).toArray, vB r.2] ∧ R' = R ∧ L' = Bk b0_ 79 [g0_.m, vI a0.bytes] :: OwM vS api_Entry.v g0_.m a0.m :: F) := by
  unfold table_Table_Get at hm
  refine co_ofN (N := 22) Try.func21 rfl rfl ?_
  refine c_seq ?_
  refine c_reg ?_
  refine r_new (o_al ze44) fun b1 => ?_
  refine r_u (o_as rfl) ?_
  refine r_nil ?_
  refine x_seq ?_
  refine c_seq ?_
  refine c_seq ?_
  refine c_reg ?_
  refine r_u (o_mv rfl) ?_
  refine r_u (o_bin rfl rfl (bP_eqp Try.underlying51)) ?_
  refine r_nil ?_
  refine x_seq ?_
  refine c_ff rfl ?_
  refine c_skip ?_
  refine x_seq ?_
  refine c_seq ?_
  refine c_reg ?_
  refine r_u (o_mv rfl) ?_
  refine r_u (o_nc rfl) ?_
  refine r_u (o_fa fa79_0 rfl) ?_
  refine r_u (o_ld 1 sc77 rfl rfl rfl) ?_
  refine r_u (o_mv rfl) ?_
  refine r_u (o_lk (kv := vS) (vv := api_Entry.v) (key := a1) (z0 := ((⟨[], [], 0, 0⟩ : api_Entry) : api_Entry)) 2 Try.underlying77 (kok_S Try.underlying9) (fun _ => by kernel_rfl) rfl rfl rfl) ?_
  refine r_u (o_mv rfl) ?_
  refine r_u (o_ext rfl rfl) ?_
  refine r_u (o_ext rfl rfl) ?_
  refine r_new (o_al ze44) fun b2 => ?_
  refine r_u0 (o_stn ag44 rfl rfl rfl rfl rfl rfl rfl) ?_
  refine r_u (o_as rfl) ?_
  refine r_nil ?_
  refine x_seq ?_
  refine c_seq ?_
  refine c_reg ?_
  refine r_u (o_ldn 0 (api_Entry.c ((mget a0.m a1).getD ((⟨[], [], 0, 0⟩ : api_Entry) : api_Entry))) ag44 rfl rfl rfl rfl) ?_
  refine r_u (o_mv rfl) ?_
  refine rl_st (fun _ h => mv1 h) ?_
  refine r_u0 (o_stn ag44 rfl rfl rfl rfl rfl rfl rfl) ?_
  refine r_u (o_as rfl) ?_
  refine r_nil ?_
  refine x_seq ?_
  refine c_ret ?_
  subst hm
  exact x_d2 rfl (rv_n 0 (api_Entry.c ((mget a0.m a1).getD ((⟨[], [], 0, 0⟩ : api_Entry) : api_Entry))) ag44 rfl rfl rfl rfl) (rv_t rfl) (fun _ h => st_pk 4 [2, 3] (by decide) h) (Le.refl _) ⟨_, rfl, rfl, rfl, rfl⟩

def table_size (a0 : api_Entry) : Int :=
  i64 ((a0.Key.length : Int) + (a0.Value.length : Int))
theorem table_size.ok {G R F} (a0 : api_Entry) (r : Int) (hm : table_size a0 = r) : CO Try.prog 26 [.agg (api_Entry.c a0).toArray] G R (F)
    (Ret fun u R' L' => u = vI r ∧ R' = R ∧ L' = F) := by
  unfold table_size at hm
  refine co_ofN (N := 10) Try.func26 rfl rfl ?_
  refine c_seq ?_
  refine c_reg ?_
  refine r_new (o_bx (api_Entry.c a0) rfl rfl) fun b0 => ?_
  refine r_u (o_as rfl) ?_
  refine r_nil ?_
  refine x_seq ?_
  refine c_seq ?_
  refine c_reg ?_
  refine r_u (o_fa fa44_0 rfl) ?_
  refine r_u (o_ld 0 sc9 rfl rfl rfl) ?_
  refine r_u (o_lenS Try.underlying9 rfl) ?_
  refine r_u (o_fa fa44_1 rfl) ?_
  refine r_u (o_ld 0 sc9 rfl rfl rfl) ?_
  refine r_u (o_lenS Try.underlying9 rfl) ?_
  refine r_u (o_bin rfl rfl (bI_add (a0.Key.length : Int) (a0.Value.length : Int))) ?_
  refine r_u (o_as rfl) ?_
  refine r_nil ?_
  refine x_seq ?_
  refine c_ret ?_
  subst hm
  refine ex_st (fun _ h => st_pk 1 [] (by decide) h) ?_
  exact x_r1 rfl (rv_t rfl) (Le.refl _) ⟨_, rfl, rfl, rfl, rfl⟩

def table_Table_Drop (a0 : table_Table) (a1 : Str) : Bool × table_Table :=
  lt (table_Table_Get a0 a1) fun r1 => if r1.2 then (r1.2, (⟨mdel a0.m a1, i64 (a0.bytes - (table_size r1.1))⟩ : table_Table)) else (r1.2, a0)
theorem table_Table_Drop.ok {G R F} (b0_ : Nat) (a0 : table_Table) (g0_ : table_Table.G) (a1 : Str) (r : Bool × table_Table) (hm : table_Table_Drop a0 a1 = r) : CO Try.prog 17 [pt b0_ 0, vS a1] G R (Bk b0_ 79 [g0_.m, vI a0.bytes] :: OwM vS api_Entry.v g0_.m a0.m :: F)
    (Ret fun u R' L' => u = vB r.1 ∧ R' = R ∧ L' = Bk b0_ 79 [g0_.m, vI r.2.bytes] :: OwM vS api_Entry.v g0_.m r.2.m :: F) := by
  unfold table_Table_Drop at hm
  refine co_ofN (N := 29) Try.func17 rfl rfl ?_
  refine c_seq ?_
  refine c_reg ?_
  refine r_u (o_as rfl) ?_
  refine r_nil ?_
  refine x_seq ?_
  refine c_seq ?_
  refine c_reg ?_
  refine r_u (o_mv rfl) ?_
  refine r_u (o_mv rfl) ?_
  obtain ⟨r1, hr1, hm2⟩ := ltx hm
  clear hm
  refine r_c (s_w (o_call ca21 rfl (table_Table_Get.ok b0_ a0 g0_ a1 r1 hr1))) ?_
  refine r_u (o_mv rfl) ?_
  refine r_u (o_ext rfl rfl) ?_
  refine r_u (o_ext rfl rfl) ?_
  refine r_new (o_al ze44) fun b3 => ?_
  refine r_u0 (o_stn ag44 rfl rfl rfl rfl rfl rfl rfl) ?_
  refine r_u (o_as rfl) ?_
  refine r_nil ?_
  refine x_seq ?_
  refine c_seq ?_
  refine c_seq ?_
  refine c_reg ?_
  refine r_u (o_mv rfl) ?_
  refine r_nil ?_
  refine x_seq ?_
  refine c_if (b := r1.2) rfl (fun h4 => ?_) fun h4 => ?_
  · have hm5 := ift hm2 h4
    clear hm2
    refine c_seq ?_
    refine c_reg ?_
    refine r_u (o_mv rfl) ?_
    refine r_u (o_nc rfl) ?_
    refine r_u (o_fa fa79_0 rfl) ?_
    refine r_u (o_ld 1 sc77 rfl rfl rfl) ?_
    refine r_u (o_mv rfl) ?_
    refine rl_st (fun _ h => mv2 h) ?_
    refine r_u0 (o_del (kv := vS) (vv := api_Entry.v) (key := a1) Try.underlying77 (kok_S Try.underlying9) rfl rfl rfl rfl) ?_
    refine r_nil ?_
    refine x_seq ?_
    refine c_any mixed (effs := [9]) (V := []) ?_
    refine stage_st (fun _ h => mv2 h) ?_
    refine stage_ext [(0, pt b0_ 0), (1, pt b0_ 0), (2, pt b0_ 1), (3, vI a0.bytes), (4, .agg (api_Entry.c r1.1).toArray), (5, vI (table_size r1.1)), (6, vI (i64 (a0.bytes - (table_size r1.1)))), (7, pt b0_ 0), (8, pt b0_ 1)] rfl ?_
    refine stage rfl rfl rfl rfl [0, 1, 3, 7, 0, 16, 63, 127, 255, 511] [0, 1, 2, 3, 4, 5, 6, 7, 8] [9] rfl rfl rfl (qc rfl rfl (s_u (o_mv rfl)) (qc rfl rfl (s_u (o_nc rfl)) (qc rfl rfl (s_u (o_fa fa79_1 rfl)) (qc rfl rfl (s_u (o_ld 0 sc3 rfl rfl rfl)) (qc rfl rfl (s_u (o_ldn 2 (api_Entry.c r1.1) ag44 rfl rfl rfl rfl)) (qc rfl rfl (s_u (o_callq ca26 rfl (table_size.ok r1.1 _ rfl))) (qc rfl rfl (s_u (o_bin rfl rfl (bI_sub a0.bytes (table_size r1.1)))) (qc rfl rfl (s_u (o_nc rfl)) (qc rfl rfl (s_u (o_fa fa79_1 rfl)) qn))))))))) ?_ (fun h => absurd h (by decide))
    refine ec (eo_u rfl (s_u (o_st sc3 rfl rfl rfl rfl rfl rfl)) (Le.refl _) ?_) en
    refine stage rfl rfl rfl rfl [0, 1, 3, 7, 0, 16, 63, 127, 255, 511] [] [] rfl rfl rfl qn en ?_
    intro _
    refine ex_sub (E' := [(6, vB r1.2)]) ⟨rfl, trivial⟩ ?_
    refine x_seq ?_
    refine c_seq ?_
    refine c_reg ?_
    refine r_u (o_mv rfl) ?_
    refine r_u (o_as rfl) ?_
    refine r_nil ?_
    refine x_seq ?_
    refine c_ret ?_
    subst hm5
    refine ex_st (fun _ h => st_pk 3 [0, 1] (by decide) h) ?_
    exact x_r1 rfl (rv_t rfl) (Le.refl _) ⟨_, rfl, rfl, rfl, rfl⟩
  · have hm5 := iff_ hm2 h4
    clear hm2
    refine c_skip ?_
    refine x_seq ?_
    refine c_seq ?_
    refine c_reg ?_
    refine r_u (o_mv rfl) ?_
    refine r_u (o_as rfl) ?_
    refine r_nil ?_
    refine x_seq ?_
    refine c_ret ?_
    subst hm5
    refine ex_st (fun _ h => st_pk 3 [1, 2] (by decide) h) ?_
    exact x_r1 rfl (rv_t rfl) (Le.refl _) ⟨_, rfl, rfl, rfl, rfl⟩

def policy_Policy_Kind (a0 : policy_Policy) : Int :=
  a0.kind
theorem policy_Policy_Kind.ok {G R F} (b0_ : Nat) (a0 : policy_Policy) (g0_ : policy_Policy.G) (r : Int) (hm : policy_Policy_Kind a0 = r) : CO Try.prog 27 [pt b0_ 0] G R (Bk b0_ 72 [vI a0.kind, g0_.a.1, g0_.t.1] :: rO (arc_Arc.op g0_.a.2) g0_.a.1 a0.a :: rO (tiny_Tiny.op g0_.t.2) g0_.t.1 a0.t :: F)
    (Ret fun u R' L' => u = vI r ∧ R' = R ∧ L' = Bk b0_ 72 [vI a0.kind, g0_.a.1, g0_.t.1] :: rO (arc_Arc.op g0_.a.2) g0_.a.1 a0.a :: rO (tiny_Tiny.op g0_.t.2) g0_.t.1 a0.t :: F) := by
  obtain ⟨⟨pv1, g2⟩, ⟨pv4, g5⟩⟩ := g0_
  unfold policy_Policy_Kind at hm
  refine co_ofN (N := 9) Try.func27 rfl rfl ?_
  refine c_seq ?_
  refine c_reg ?_
  refine r_u (o_as rfl) ?_
  refine r_nil ?_
  refine x_seq ?_
  refine c_seq ?_
  refine c_seq ?_
  refine c_reg ?_
  refine r_u (o_mv rfl) ?_
  refine r_u (o_bin rfl rfl (bP_eqp Try.underlying48)) ?_
  refine r_nil ?_
  refine x_seq ?_
  refine c_ff rfl ?_
  refine c_skip ?_
  refine x_seq ?_
  refine c_seq ?_
  refine c_reg ?_
  refine r_u (o_mv rfl) ?_
  refine r_u (o_nc rfl) ?_
  refine r_u (o_fa fa72_0 rfl) ?_
  refine r_u (o_ld 0 sc3 rfl rfl rfl) ?_
  refine r_u (o_as rfl) ?_
  refine r_nil ?_
  refine x_seq ?_
  refine c_ret ?_
  subst hm
  exact x_r1 rfl (rv_t rfl) (Le.refl _) ⟨_, rfl, rfl, rfl, rfl⟩

def ring_Rings_In (a0 : ring_Rings) (a1 : Str) : Option (Int × Bool) :=
  if !((mget a0.at_ a1).isSome) then some (0, false) else (gi a0.slots ((mget a0.at_ a1).getD (0 : Int))).bind fun x6 => some (x6.list, true)
theorem ring_Rings_In.ok {G R F} (b0_ : Nat) (a0 : ring_Rings) (g0_ : ring_Rings.G) (a1 : Str) (r : Int × Bool) (hm : ring_Rings_In a0 a1 = some r) : CO Try.prog 52 [pt b0_ 0, vS a1] G R (Bk b0_ 109 [vI a0.lists, g0_.slots, g0_.free, g0_.at_, g0_.many] :: OwS true 111 4 ring_slot.c g0_.slots a0.slots :: OwS true 3 1 eI g0_.free a0.free :: OwM vS vI g0_.at_ a0.at_ :: OwS true 3 1 eI g0_.many a0.many :: F)
    (Ret fun u R' L' => u = .tuple #[vI r.1, vB r.2] ∧ R' = R ∧ L' = Bk b0_ 109 [vI a0.lists, g0_.slots, g0_.free, g0_.at_, g0_.many] :: OwS true 111 4 ring_slot.c g0_.slots a0.slots :: OwS true 3 1 eI g0_.free a0.free :: OwM vS vI g0_.at_ a0.at_ :: OwS true 3 1 eI g0_.many a0.many :: F) := by
  unfold ring_Rings_In at hm
  refine co_ofN (N := 29) Try.func52 rfl rfl ?_
  refine c_seq ?_
  refine c_reg ?_
  refine r_u (o_as rfl) ?_
  refine r_u (o_as rfl) ?_
  refine r_nil ?_
  refine x_seq ?_
  refine c_seq ?_
  refine c_seq ?_
  refine c_reg ?_
  refine r_u (o_mv rfl) ?_
  refine r_u (o_bin rfl rfl (bP_eqp Try.underlying88)) ?_
  refine r_nil ?_
  refine x_seq ?_
  refine c_ff rfl ?_
  refine c_skip ?_
  refine x_seq ?_
  refine c_seq ?_
  refine c_reg ?_
  refine r_u (o_mv rfl) ?_
  refine r_u (o_nc rfl) ?_
  refine r_u (o_fa fa109_3 rfl) ?_
  refine r_u (o_ld 0 sc105 rfl rfl rfl) ?_
  refine r_u (o_mv rfl) ?_
  refine r_u (o_lk (kv := vS) (vv := vI) (key := a1) (z0 := (0 : Int)) 3 Try.underlying105 (kok_S Try.underlying9) (fun _ => by kernel_rfl) rfl rfl rfl) ?_
  refine r_u (o_mv rfl) ?_
  refine r_u (o_ext rfl rfl) ?_
  refine r_u (o_ext rfl rfl) ?_
  refine r_u (o_as rfl) ?_
  refine r_u (o_as rfl) ?_
  refine r_nil ?_
  refine x_seq ?_
  refine c_seq ?_
  refine c_seq ?_
  refine c_reg ?_
  refine r_u (o_mv rfl) ?_
  refine r_u (o_not rfl) ?_
  refine r_nil ?_
  refine x_seq ?_
  refine c_if (b := !((mget a0.at_ a1).isSome)) rfl (fun h4 => ?_) fun h4 => ?_
  · have hm5 := ift hm h4
    clear hm
    refine c_seq ?_
    refine c_reg ?_
    refine r_u (o_as rfl) ?_
    refine r_u (o_as rfl) ?_
    refine r_nil ?_
    refine x_seq ?_
    refine c_ret ?_
    obtain rfl := Option.some.inj hm5
    exact x_r2 rfl (rv_t rfl) (rv_t rfl) (Le.refl _) ⟨_, rfl, rfl, rfl, rfl⟩
  · have hm5 := iff_ hm h4
    clear hm
    refine c_skip ?_
    refine x_seq ?_
    refine c_seq ?_
    refine c_reg ?_
    refine r_u (o_mv rfl) ?_
    refine r_u (o_nc rfl) ?_
    refine r_u (o_fa fa109_1 rfl) ?_
    refine r_u (o_ld 0 sc107 rfl rfl rfl) ?_
    refine r_u (o_mv rfl) ?_
    obtain ⟨x6, hx6, hm7⟩ := bs hm5
    clear hm5
    refine r_u (o_ixO 1 Try.underlying107 (fun _ => by kernel_rfl) rfl rfl rfl hx6) ?_
    refine r_u (o_fa fa111_1 rfl) ?_
    refine r_u (o_ldO 1 1 sc3 rfl rfl hx6 rfl rfl) ?_
    refine r_u (o_as rfl) ?_
    refine r_u (o_as rfl) ?_
    refine r_nil ?_
    refine x_seq ?_
    refine c_ret ?_
    obtain rfl := Option.some.inj hm7
    exact x_r2 rfl (rv_t rfl) (rv_t rfl) (Le.refl _) ⟨_, rfl, rfl, rfl, rfl⟩

def arc_Arc_Has (a0 : arc_Arc) (a1 : Str) : Option Bool :=
  om a0.r (none) fun x3 => (ring_Rings_In x3 a1).bind fun r11 => some (r11.2 && decide (r11.1 ≤ 1))
theorem arc_Arc_Has.ok {G R F} (b0_ : Nat) (a0 : arc_Arc) (g0_ : arc_Arc.G) (a1 : Str) (r : Bool) (hm : arc_Arc_Has a0 a1 = some r) : CO Try.prog 39 [pt b0_ 0, vS a1] G R (Bk b0_ 92 [vI a0.most, vI a0.target, g0_.r.1] :: rO (ring_Rings.op g0_.r.2) g0_.r.1 a0.r :: F)
    (Ret fun u R' L' => u = vB r ∧ R' = R ∧ L' = Bk b0_ 92 [vI a0.most, vI a0.target, g0_.r.1] :: rO (ring_Rings.op g0_.r.2) g0_.r.1 a0.r :: F) := by
  obtain ⟨⟨pv1, g2⟩⟩ := g0_
  unfold arc_Arc_Has at hm
  refine co_ofN (N := 23) Try.func39 rfl rfl ?_
  refine c_seq ?_
  refine c_reg ?_
  refine r_u (o_as rfl) ?_
  refine r_nil ?_
  refine x_seq ?_
  refine c_seq ?_
  refine c_seq ?_
  refine c_reg ?_
  refine r_u (o_mv rfl) ?_
  refine r_u (o_bin rfl rfl (bP_eqp Try.underlying69)) ?_
  refine r_nil ?_
  refine x_seq ?_
  refine c_ff rfl ?_
  refine c_skip ?_
  refine x_seq ?_
  refine c_seq ?_
  refine cd_st (fun _ h => mv1 h) ?_
  refine cd_opt (fun ho5 => ?_) (fun x3 b4 ho5 => ?_)
  · rintro rfl
    have hm6 := om_n hm ho5
    clear hm
    cases hm6
  · rintro rfl
    have hm6 := om_s hm ho5
    clear hm
    refine cd_st (fun _ h => st_star_o h) ?_
    refine c_reg ?_
    refine r_u (o_mv rfl) ?_
    refine r_u (o_nc rfl) ?_
    refine r_u (o_fa fa92_2 rfl) ?_
    refine r_u (o_ld 5 sc88 rfl rfl rfl) ?_
    refine r_u (o_mv rfl) ?_
    obtain ⟨r11, hr11, hm12⟩ := bs hm6
    clear hm6
    refine r_c (s_w (o_call ca52 rfl (ring_Rings_In.ok b4 x3 g2 a1 r11 hr11))) ?_
    refine r_u (o_mv rfl) ?_
    refine r_u (o_ext rfl rfl) ?_
    refine r_u (o_ext rfl rfl) ?_
    refine r_u (o_as rfl) ?_
    refine r_u (o_as rfl) ?_
    refine r_nil ?_
    refine x_seq ?_
    refine c_seq ?_
    refine c_reg ?_
    refine r_u (o_mv rfl) ?_
    refine r_u (o_mv rfl) ?_
    refine r_s (s_gt rfl rfl fun g => o_mv rfl) ?_
    refine r_s (s_gt rfl rfl fun g => o_bin (evg rfl g) rfl (bI_le r11.1 1)) ?_
    refine r_u (o_and rfl rfl) ?_
    refine r_u (o_as rfl) ?_
    refine r_nil ?_
    refine x_seq ?_
    refine c_ret ?_
    refine ex_st (fun _ h => st_some (f := ring_Rings.op g2) (a := x3) (st_star_f (A := ring_Rings.fl b4 x3 g2) h)) ?_
    refine ex_st (fun _ h => st_back ho5 h) ?_
    obtain rfl := Option.some.inj hm12
    refine ex_st (fun _ h => st_pk 2 [1, 0] (by decide) h) ?_
    exact x_r1 rfl (rv_t rfl) (Le.refl _) ⟨_, rfl, rfl, rfl, rfl⟩

def ring_Rings_cut (a0 : ring_Rings) (a1 : Int) : Option ring_Rings :=
  (gi a0.slots a1).bind fun x4 => (gi a0.slots x4.prev).bind fun x6 => (gi (ls a0.slots x4.prev (⟨x6.key, x6.list, x6.prev, x4.next⟩ : ring_slot)) x4.next).bind fun x8 => (gi (ls (ls a0.slots x4.prev (⟨x6.key, x6.list, x6.prev, x4.next⟩ : ring_slot)) x4.next (⟨x8.key, x8.list, x4.prev, x8.next⟩ : ring_slot)) a1).bind fun x10 => (gi a0.many x10.list).bind fun x12 => some (⟨a0.lists, ls (ls a0.slots x4.prev (⟨x6.key, x6.list, x6.prev, x4.next⟩ : ring_slot)) x4.next (⟨x8.key, x8.list, x4.prev, x8.next⟩ : ring_slot), a0.free, a0.at_, ls a0.many x10.list (i64 (x12 - 1))⟩ : ring_Rings)
theorem ring_Rings_cut.ok {G R F} (b0_ : Nat) (a0 : ring_Rings) (g0_ : ring_Rings.G) (a1 : Int) (r : ring_Rings) (hm : ring_Rings_cut a0 a1 = some r) : CO Try.prog 53 [pt b0_ 0, vI a1] G R (Bk b0_ 109 [vI a0.lists, g0_.slots, g0_.free, g0_.at_, g0_.many] :: OwS true 111 4 ring_slot.c g0_.slots a0.slots :: OwS true 3 1 eI g0_.free a0.free :: OwM vS vI g0_.at_ a0.at_ :: OwS true 3 1 eI g0_.many a0.many :: F)
    (Ret fun u R' L' => u = .tuple #[] ∧ R' = R ∧ L' = Bk b0_ 109 [vI r.lists, g0_.slots, g0_.free, g0_.at_, g0_.many] :: OwS true 111 4 ring_slot.c g0_.slots r.slots :: OwS true 3 1 eI g0_.free r.free :: OwM vS vI g0_.at_ r.at_ :: OwS true 3 1 eI g0_.many r.many :: F) := by
  unfold ring_Rings_cut at hm
  refine co_ofN (N := 51) Try.func53 rfl rfl ?_
  refine c_seq ?_
  refine c_reg ?_
  refine r_u (o_mv rfl) ?_
  refine r_u (o_nc rfl) ?_
  refine r_u (o_fa fa109_1 rfl) ?_
  refine r_u (o_ld 0 sc107 rfl rfl rfl) ?_
  refine r_u (o_mv rfl) ?_
  obtain ⟨x4, hx4, hm5⟩ := bs hm
  clear hm
  refine r_u (o_ixO 1 Try.underlying107 (fun _ => by kernel_rfl) rfl rfl rfl hx4) ?_
  refine r_u (o_as rfl) ?_
  refine r_nil ?_
  refine x_seq ?_
  refine c_seq ?_
  obtain ⟨x6, hx6, hm7⟩ := bs hm5
  clear hm5
  obtain ⟨x8, hx8, hm9⟩ := bs hm7
  clear hm7
  refine c_any mixed (effs := [26, 29]) (V := []) ?_
  refine stage_st (fun _ h => mv1 h) ?_
  refine stage_ext [(0, pt b0_ 0), (1, pt b0_ 0), (2, pt b0_ 1), (3, g0_.slots), (4, pt (sb g0_.slots) (so g0_.slots + a1.toNat * 4)), (5, pt (sb g0_.slots) (so g0_.slots + a1.toNat * 4)), (6, pt (sb g0_.slots) (so g0_.slots + a1.toNat * 4 + 2)), (7, vI x4.prev), (8, pt b0_ 0), (9, pt b0_ 0), (10, pt b0_ 1), (11, g0_.slots), (12, pt (sb g0_.slots) (so g0_.slots + a1.toNat * 4)), (13, pt (sb g0_.slots) (so g0_.slots + a1.toNat * 4)), (14, pt (sb g0_.slots) (so g0_.slots + a1.toNat * 4 + 3)), (15, vI x4.next), (16, pt (sb g0_.slots) (so g0_.slots + a1.toNat * 4)), (17, pt (sb g0_.slots) (so g0_.slots + a1.toNat * 4)), (18, pt (sb g0_.slots) (so g0_.slots + a1.toNat * 4 + 3)), (19, vI x4.next), (20, pt (sb g0_.slots) (so g0_.slots + a1.toNat * 4)), (21, pt (sb g0_.slots) (so g0_.slots + a1.toNat * 4)), (22, pt (sb g0_.slots) (so g0_.slots + a1.toNat * 4 + 2)), (23, vI x4.prev), (24, pt (sb g0_.slots) (so g0_.slots + x4.prev.toNat * 4)), (25, pt (sb g0_.slots) (so g0_.slots + x4.prev.toNat * 4 + 3))] rfl ?_
  refine stage rfl rfl rfl rfl [0, 1, 3, 7, 0, 16, 48, 112, 0, 256, 768, 1792, 0, 4096, 12288, 28672, 0, 65536, 196608, 458752, 0, 1048576, 3145728, 7340032, 16777215, 33554431, 67108863, 134217727, 268435455, 536870911] [0, 1, 2, 3, 4, 5, 6, 7, 8, 9, 10, 11, 12, 13, 14, 15, 16, 17, 18, 19, 20, 21, 22, 23, 24, 25] [26] rfl rfl rfl (qc rfl rfl (s_u (o_mv rfl)) (qc rfl rfl (s_u (o_nc rfl)) (qc rfl rfl (s_u (o_fa fa109_1 rfl)) (qc rfl rfl (s_u (o_ld 1 sc107 rfl rfl rfl)) (qc rfl rfl (s_u (o_mv rfl)) (qc rfl rfl (s_u (o_nc rfl)) (qc rfl rfl (s_u (o_fa fa111_2 rfl)) (qc rfl rfl (s_u (o_ldO 0 2 sc3 rfl rfl hx4 rfl rfl)) (qc rfl rfl (s_u (o_mv rfl)) (qc rfl rfl (s_u (o_nc rfl)) (qc rfl rfl (s_u (o_fa fa109_1 rfl)) (qc rfl rfl (s_u (o_ld 1 sc107 rfl rfl rfl)) (qc rfl rfl (s_u (o_mv rfl)) (qc rfl rfl (s_u (o_nc rfl)) (qc rfl rfl (s_u (o_fa fa111_3 rfl)) (qc rfl rfl (s_u (o_ldO 0 3 sc3 rfl rfl hx4 rfl rfl)) (qc rfl rfl (s_u (o_mv rfl)) (qc rfl rfl (s_u (o_nc rfl)) (qc rfl rfl (s_u (o_fa fa111_3 rfl)) (qc rfl rfl (s_u (o_ldO 0 3 sc3 rfl rfl hx4 rfl rfl)) (qc rfl rfl (s_u (o_mv rfl)) (qc rfl rfl (s_u (o_nc rfl)) (qc rfl rfl (s_u (o_fa fa111_2 rfl)) (qc rfl rfl (s_u (o_ldO 0 2 sc3 rfl rfl hx4 rfl rfl)) (qc rfl rfl (s_u (o_ixO 0 Try.underlying107 (fun _ => by kernel_rfl) rfl rfl rfl hx6)) (qc rfl rfl (s_u (o_fa fa111_3 rfl)) qn)))))))))))))))))))))))))) ?_ (fun h => absurd h (by decide))
  refine ec (eo_u rfl (s_u (o_stO (c' := (⟨x6.key, x6.list, x6.prev, x4.next⟩ : ring_slot)) 3 sc3 rfl rfl rfl hx6 rfl rfl rfl)) (Le.refl _) ?_) en
  refine stage_ext [(27, pt (sb g0_.slots) (so g0_.slots + x4.next.toNat * 4)), (28, pt (sb g0_.slots) (so g0_.slots + x4.next.toNat * 4 + 2))] rfl ?_
  refine stage rfl rfl rfl rfl [0, 1, 3, 7, 0, 16, 48, 112, 0, 256, 768, 1792, 0, 4096, 12288, 28672, 0, 65536, 196608, 458752, 0, 1048576, 3145728, 7340032, 16777215, 33554431, 67108863, 134217727, 268435455, 536870911] [27, 28] [29] rfl rfl rfl (qc rfl rfl (s_u (o_ixO 0 Try.underlying107 (fun _ => by kernel_rfl) rfl rfl rfl hx8)) (qc rfl rfl (s_u (o_fa fa111_2 rfl)) qn)) ?_ (fun h => absurd h (by decide))
  refine ec (eo_u rfl (s_u (o_stO (c' := (⟨x8.key, x8.list, x4.prev, x8.next⟩ : ring_slot)) 2 sc3 rfl rfl rfl hx8 rfl rfl rfl)) (Le.refl _) ?_) en
  refine stage rfl rfl rfl rfl [0, 1, 3, 7, 0, 16, 48, 112, 0, 256, 768, 1792, 0, 4096, 12288, 28672, 0, 65536, 196608, 458752, 0, 1048576, 3145728, 7340032, 16777215, 33554431, 67108863, 134217727, 268435455, 536870911] [] [] rfl rfl rfl qn en ?_
  intro _
  refine ex_sub (E' := [(0, pt b0_ 0), (4, pt (sb g0_.slots) (so g0_.slots + a1.toNat * 4))]) ⟨rfl, rfl, trivial⟩ ?_
  refine x_seq ?_
  obtain ⟨x10, hx10, hm11⟩ := bs hm9
  clear hm9
  obtain ⟨x12, hx12, hm13⟩ := bs hm11
  clear hm11
  refine c_any mixed (effs := [12]) (V := []) ?_
  refine stage_st (fun _ h => mv4 h) ?_
  refine stage_ext [(0, pt b0_ 0), (1, pt b0_ 0), (2, pt b0_ 4), (3, g0_.many), (4, pt (sb g0_.slots) (so g0_.slots + a1.toNat * 4)), (5, pt (sb g0_.slots) (so g0_.slots + a1.toNat * 4)), (6, pt (sb g0_.slots) (so g0_.slots + a1.toNat * 4 + 1)), (7, vI x10.list), (8, pt (sb g0_.many) (so g0_.many + x10.list.toNat * 1)), (9, vI x12), (10, vI (i64 (x12 - 1))), (11, pt (sb g0_.many) (so g0_.many + x10.list.toNat * 1))] rfl ?_
  refine stage rfl rfl rfl rfl [0, 1, 3, 7, 0, 16, 48, 112, 255, 511, 1023, 2047, 4095] [0, 1, 2, 3, 4, 5, 6, 7, 8, 9, 10, 11] [12] rfl rfl rfl (qc rfl rfl (s_u (o_mv rfl)) (qc rfl rfl (s_u (o_nc rfl)) (qc rfl rfl (s_u (o_fa fa109_4 rfl)) (qc rfl rfl (s_u (o_ld 2 sc106 rfl rfl rfl)) (qc rfl rfl (s_u (o_mv rfl)) (qc rfl rfl (s_u (o_nc rfl)) (qc rfl rfl (s_u (o_fa fa111_1 rfl)) (qc rfl rfl (s_u (o_ldO 1 1 sc3 rfl rfl hx10 rfl rfl)) (qc rfl rfl (s_u (o_ixO 0 Try.underlying106 (fun _ => by kernel_rfl) rfl rfl rfl hx12)) (qc rfl rfl (s_u (o_ldO0 0 sc3 rfl rfl hx12 rfl rfl)) (qc rfl rfl (s_u (o_bin rfl rfl (bI_sub x12 1))) (qc rfl rfl (s_u (o_ixO 0 Try.underlying106 (fun _ => by kernel_rfl) rfl rfl rfl hx12)) qn)))))))))))) ?_ (fun h => absurd h (by decide))
  refine ec (eo_u rfl (s_u (o_stO0 (c' := i64 (x12 - 1)) sc3 rfl rfl rfl hx12 rfl rfl rfl)) (Le.refl _) ?_) en
  refine stage rfl rfl rfl rfl [0, 1, 3, 7, 0, 16, 48, 112, 255, 511, 1023, 2047, 4095] [] [] rfl rfl rfl qn en ?_
  intro _
  refine ex_sub (E' := []) trivial ?_
  refine x_end ?_
  obtain rfl := Option.some.inj hm13
  refine ex_st (fun _ h => st_pk 5 [2, 1, 3, 4, 0] (by decide) h) ?_
  exact x_r0 rfl (Le.refl _) ⟨_, rfl, rfl, rfl, rfl⟩

def ring_Rings_Drop (a0 : ring_Rings) (a1 : Str) : Option (Bool × ring_Rings) :=
  if (mget a0.at_ a1).isSome then (ring_Rings_cut a0 ((mget a0.at_ a1).getD (0 : Int))).bind fun r6 => (gi r6.slots ((mget a0.at_ a1).getD (0 : Int))).bind fun x8 => (apd 8 r6.free [((mget a0.at_ a1).getD (0 : Int))]).bind fun l12 => some ((mget a0.at_ a1).isSome, (⟨r6.lists, ls r6.slots ((mget a0.at_ a1).getD (0 : Int)) (⟨[], 0, 0, 0⟩ : ring_slot), l12, mdel r6.at_ a1, r6.many⟩ : ring_Rings)) else some ((mget a0.at_ a1).isSome, a0)
theorem ring_Rings_Drop.ok {G R F} (b0_ : Nat) (a0 : ring_Rings) (g0_ : ring_Rings.G) (a1 : Str) (r : Bool × ring_Rings) (hm : ring_Rings_Drop a0 a1 = some r) : CO Try.prog 40 [pt b0_ 0, vS a1] G R (Bk b0_ 109 [vI a0.lists, g0_.slots, g0_.free, g0_.at_, g0_.many] :: OwS true 111 4 ring_slot.c g0_.slots a0.slots :: OwS true 3 1 eI g0_.free a0.free :: OwM vS vI g0_.at_ a0.at_ :: OwS true 3 1 eI g0_.many a0.many :: F)
    (Ret fun u R' L' => ∃ (q0 : ring_Rings.G), u = vB r.1 ∧ R' = R ∧ L' = Bk b0_ 109 [vI r.2.lists, q0.slots, q0.free, q0.at_, q0.many] :: OwS true 111 4 ring_slot.c q0.slots r.2.slots :: OwS true 3 1 eI q0.free r.2.free :: OwM vS vI q0.at_ r.2.at_ :: OwS true 3 1 eI q0.many r.2.many :: F) := by
  unfold ring_Rings_Drop at hm
  refine co_ofN (N := 45) Try.func40 rfl rfl ?_
  refine c_seq ?_
  refine c_reg ?_
  refine r_u (o_as rfl) ?_
  refine r_nil ?_
  refine x_seq ?_
  refine c_seq ?_
  refine c_seq ?_
  refine c_reg ?_
  refine r_u (o_mv rfl) ?_
  refine r_u (o_bin rfl rfl (bP_eqp Try.underlying88)) ?_
  refine r_nil ?_
  refine x_seq ?_
  refine c_ff rfl ?_
  refine c_skip ?_
  refine x_seq ?_
  refine c_seq ?_
  refine c_reg ?_
  refine r_u (o_mv rfl) ?_
  refine r_u (o_nc rfl) ?_
  refine r_u (o_fa fa109_3 rfl) ?_
  refine r_u (o_ld 0 sc105 rfl rfl rfl) ?_
  refine r_u (o_mv rfl) ?_
  refine r_u (o_lk (kv := vS) (vv := vI) (key := a1) (z0 := (0 : Int)) 3 Try.underlying105 (kok_S Try.underlying9) (fun _ => by kernel_rfl) rfl rfl rfl) ?_
  refine r_u (o_mv rfl) ?_
  refine r_u (o_ext rfl rfl) ?_
  refine r_u (o_ext rfl rfl) ?_
  refine r_u (o_as rfl) ?_
  refine r_u (o_as rfl) ?_
  refine r_nil ?_
  refine x_seq ?_
  refine c_seq ?_
  refine c_seq ?_
  refine c_reg ?_
  refine r_u (o_mv rfl) ?_
  refine r_nil ?_
  refine x_seq ?_
  refine c_if (b := (mget a0.at_ a1).isSome) rfl (fun h4 => ?_) fun h4 => ?_
  · have hm5 := ift hm h4
    clear hm
    refine c_seq ?_
    refine c_reg ?_
    refine r_u (o_mv rfl) ?_
    refine r_u (o_mv rfl) ?_
    obtain ⟨r6, hr6, hm7⟩ := bs hm5
    clear hm5
    refine r_c (s_w (o_call ca53 rfl (ring_Rings_cut.ok b0_ a0 g0_ ((mget a0.at_ a1).getD (0 : Int)) r6 hr6))) ?_
    refine r_nil ?_
    refine x_seq ?_
    refine c_seq ?_
    refine c_reg ?_
    refine r_u (o_mv rfl) ?_
    refine r_u (o_nc rfl) ?_
    refine r_u (o_fa fa109_3 rfl) ?_
    refine r_u (o_ld 0 sc105 rfl rfl rfl) ?_
    refine r_u (o_mv rfl) ?_
    refine rl_st (fun _ h => mv3 h) ?_
    refine r_u0 (o_del (kv := vS) (vv := vI) (key := a1) Try.underlying105 (kok_S Try.underlying9) rfl rfl rfl rfl) ?_
    refine r_nil ?_
    refine x_seq ?_
    refine c_seq ?_
    refine c_reg ?_
    refine r_u (o_mv rfl) ?_
    refine r_u (o_nc rfl) ?_
    refine r_u (o_fa fa109_1 rfl) ?_
    refine r_u (o_ld 1 sc107 rfl rfl rfl) ?_
    refine r_u (o_mv rfl) ?_
    refine r_u (o_bld [vS [], vI 0, vI 0, vI 0] rfl (fun _ => by kernel_rfl)) ?_
    obtain ⟨x8, hx8, hm9⟩ := bs hm7
    clear hm7
    refine r_u (o_ixO 2 Try.underlying107 (fun _ => by kernel_rfl) rfl rfl rfl hx8) ?_
    refine rl_st (fun _ h => mv2 h) ?_
    refine r_u0 (o_stnO (c' := (⟨[], 0, 0, 0⟩ : ring_slot)) ag111 rfl rfl rfl hx8 rfl rfl rfl) ?_
    refine r_nil ?_
    refine x_seq ?_
    refine c_reg ?_
    refine r_u (o_mv rfl) ?_
    refine r_u (o_mv rfl) ?_
    refine r_u (o_nc rfl) ?_
    refine r_u (o_fa fa109_2 rfl) ?_
    refine r_u (o_ld 2 sc106 rfl rfl rfl) ?_
    refine r_u (o_mv rfl) ?_
    refine r_sw (s_w (o_bsl (en := eI) (sz := 1) (e := 3) (cs := [vI ((mget a0.at_ a1).getD (0 : Int))]) (r := [((mget a0.at_ a1).getD (0 : Int))]) rfl (fun _ => by kernel_rfl) rfl (by decide) rfl (fun _ => rfl))) ?_
    rintro v10 R _ _ ⟨rfl, rfl⟩
    obtain ⟨l12, hl12, hm13⟩ := bs hm9
    clear hm9
    refine rl_st (fun _ h => mv4 h) ?_
    refine r_sw (s_w (o_ap (sz := 1) (bytes := 8) 0 Try.underlying106 rfl rfl rfl rfl rfl (by decide) (by decide) (fun _ _ _ h => by simp at h; subst h; rfl) (fun _ => rfl) rfl rfl rfl rfl (Nat.succ_pos _) hl12)) ?_
    rintro v11 R _ _ ⟨rfl, rfl⟩
    refine r_u (o_nc rfl) ?_
    refine r_u (o_fa fa109_2 rfl) ?_
    refine rl_st (fun _ h => mv4 h) ?_
    refine r_u0 (ou_if (one_o 1 rfl) fun ho0 => o_st sc106 rfl rfl rfl ho0 rfl rfl) ?_
    refine r_nil ?_
    refine x_seq ?_
    refine c_seq ?_
    refine c_reg ?_
    refine r_u (o_mv rfl) ?_
    refine r_u (o_as rfl) ?_
    refine r_nil ?_
    refine x_seq ?_
    refine c_ret ?_
    obtain rfl := Option.some.inj hm13
    refine ex_st (fun _ h => st_pk 6 [0, 3, 1, 4, 5] (by decide) h) ?_
    exact x_r1 rfl (rv_t rfl) (Le.refl _) ⟨_, rfl, (⟨g0_.slots, v11, g0_.at_, g0_.many⟩ : ring_Rings.G), rfl, rfl, rfl⟩
  · have hm5 := iff_ hm h4
    clear hm
    refine c_skip ?_
    refine x_seq ?_
    refine c_seq ?_
    refine c_reg ?_
    refine r_u (o_mv rfl) ?_
    refine r_u (o_as rfl) ?_
    refine r_nil ?_
    refine x_seq ?_
    refine c_ret ?_
    obtain rfl := Option.some.inj hm5
    exact x_r1 rfl (rv_t rfl) (Le.refl _) ⟨_, rfl, g0_, rfl, rfl, rfl⟩

def arc_Arc_Remove (a0 : arc_Arc) (a1 : Str) : Option (Bool × arc_Arc) :=
  (arc_Arc_Has a0 a1).bind fun r3 => om a0.r (none) fun x5 => (ring_Rings_Drop x5 a1).bind fun r13 => some (r3, (⟨a0.most, a0.target, (some r13.2)⟩ : arc_Arc))
theorem arc_Arc_Remove.ok {G R F} (b0_ : Nat) (a0 : arc_Arc) (g0_ : arc_Arc.G) (a1 : Str) (r : Bool × arc_Arc) (hm : arc_Arc_Remove a0 a1 = some r) : CO Try.prog 28 [pt b0_ 0, vS a1] G R (Bk b0_ 92 [vI a0.most, vI a0.target, g0_.r.1] :: rO (ring_Rings.op g0_.r.2) g0_.r.1 a0.r :: F)
    (Ret fun u R' L' => ∃ (q0 : arc_Arc.G), u = vB r.1 ∧ R' = R ∧ L' = Bk b0_ 92 [vI r.2.most, vI r.2.target, q0.r.1] :: rO (ring_Rings.op q0.r.2) q0.r.1 r.2.r :: F) := by
  obtain ⟨⟨pv1, g2⟩⟩ := g0_
  unfold arc_Arc_Remove at hm
  refine co_ofN (N := 18) Try.func28 rfl rfl ?_
  refine c_seq ?_
  refine c_reg ?_
  refine r_u (o_as rfl) ?_
  refine r_nil ?_
  refine x_seq ?_
  refine c_seq ?_
  refine c_reg ?_
  refine r_u (o_mv rfl) ?_
  refine r_u (o_mv rfl) ?_
  obtain ⟨r3, hr3, hm4⟩ := bs hm
  clear hm
  refine r_c (s_w (o_call ca39 rfl (arc_Arc_Has.ok b0_ a0 (⟨(pv1, g2)⟩ : arc_Arc.G) a1 r3 hr3))) ?_
  refine r_u (o_as rfl) ?_
  refine r_nil ?_
  refine x_seq ?_
  refine c_seq ?_
  refine c_seq ?_
  refine c_reg ?_
  refine r_u (o_mv rfl) ?_
  refine r_u (o_bin rfl rfl (bP_nep Try.underlying69)) ?_
  refine r_nil ?_
  refine x_seq ?_
  refine c_tt rfl ?_
  refine cd_st (fun _ h => mv1 h) ?_
  refine cd_opt (fun ho7 => ?_) (fun x5 b6 ho7 => ?_)
  · rintro rfl
    have hm8 := om_n hm4 ho7
    clear hm4
    cases hm8
  · rintro rfl
    have hm8 := om_s hm4 ho7
    clear hm4
    refine cd_st (fun _ h => st_star_o h) ?_
    refine c_reg ?_
    refine r_u (o_mv rfl) ?_
    refine r_u (o_nc rfl) ?_
    refine r_u (o_fa fa92_2 rfl) ?_
    refine r_u (o_ld 5 sc88 rfl rfl rfl) ?_
    refine r_u (o_mv rfl) ?_
    obtain ⟨r13, hr13, hm19⟩ := bs hm8
    clear hm8
    refine r_sw (s_w (o_call ca40 rfl (ring_Rings_Drop.ok b6 x5 g2 a1 r13 hr13))) ?_
    rintro _ R _ _ ⟨g14, rfl, rfl, rfl⟩
    refine r_nil ?_
    refine x_seq ?_
    refine c_seq ?_
    refine c_reg ?_
    refine r_u (o_mv rfl) ?_
    refine r_u (o_as rfl) ?_
    refine r_nil ?_
    refine x_seq ?_
    refine c_ret ?_
    refine ex_st (fun _ h => st_some (f := ring_Rings.op g14) (a := r13.2) (st_star_f (A := ring_Rings.fl b6 r13.2 g14) h)) ?_
    obtain rfl := Option.some.inj hm19
    refine ex_st (fun _ h => st_pk 2 [1, 0] (by decide) h) ?_
    exact x_r1 rfl (rv_t rfl) (Le.refl _) ⟨_, rfl, (⟨(pt b6 0, g14)⟩ : arc_Arc.G), rfl, rfl, rfl⟩

def tiny_Tiny_Remove (a0 : tiny_Tiny) (a1 : Str) : Option (Bool × tiny_Tiny) :=
  om a0.r (none) fun x6 => (ring_Rings_Drop x6 a1).bind fun r14 => some (r14.1, (⟨a0.most, a0.s, (some r14.2)⟩ : tiny_Tiny))
theorem tiny_Tiny_Remove.ok {G R F} (b0_ : Nat) (a0 : tiny_Tiny) (g0_ : tiny_Tiny.G) (a1 : Str) (r : Bool × tiny_Tiny) (hm : tiny_Tiny_Remove a0 a1 = some r) : CO Try.prog 29 [pt b0_ 0, vS a1] G R (Bk b0_ 98 [vI a0.most, g0_.s.1, g0_.r.1] :: rO (sketch_Sketch.op g0_.s.2) g0_.s.1 a0.s :: rO (ring_Rings.op g0_.r.2) g0_.r.1 a0.r :: F)
    (Ret fun u R' L' => ∃ (q0 : tiny_Tiny.G), u = vB r.1 ∧ R' = R ∧ L' = Bk b0_ 98 [vI r.2.most, q0.s.1, q0.r.1] :: rO (sketch_Sketch.op q0.s.2) q0.s.1 r.2.s :: rO (ring_Rings.op q0.r.2) q0.r.1 r.2.r :: F) := by
  obtain ⟨⟨pv1, g2⟩, ⟨pv4, g5⟩⟩ := g0_
  unfold tiny_Tiny_Remove at hm
  refine co_ofN (N := 15) Try.func29 rfl rfl ?_
  refine c_seq ?_
  refine c_reg ?_
  refine r_u (o_as rfl) ?_
  refine r_nil ?_
  refine x_seq ?_
  refine c_seq ?_
  refine cd_st (fun _ h => mv2 h) ?_
  refine cd_opt (fun ho8 => ?_) (fun x6 b7 ho8 => ?_)
  · rintro rfl
    have hm9 := om_n hm ho8
    clear hm
    cases hm9
  · rintro rfl
    have hm9 := om_s hm ho8
    clear hm
    refine cd_st (fun _ h => st_star_o h) ?_
    refine c_reg ?_
    refine r_u (o_mv rfl) ?_
    refine r_u (o_bin rfl rfl (bP_nep Try.underlying70)) ?_
    refine r_u (o_mv rfl) ?_
    refine r_s (s_y rfl rfl rfl (o_mv rfl)) ?_
    refine r_s (s_y rfl rfl rfl (o_nc rfl)) ?_
    refine r_s (s_y rfl rfl rfl (o_fa fa98_2 rfl)) ?_
    refine r_s (s_y rfl rfl rfl (o_ld 5 sc88 rfl rfl rfl)) ?_
    refine r_s (s_y rfl rfl rfl (o_mv rfl)) ?_
    obtain ⟨r14, hr14, hm20⟩ := bs hm9
    clear hm9
    refine r_sw (s_yw rfl rfl rfl (o_call ca40 rfl (ring_Rings_Drop.ok b7 x6 g5 a1 r14 hr14))) ?_
    rintro _ R _ _ ⟨g15, rfl, rfl, rfl⟩
    refine r_u (o_pt rfl rfl rfl) ?_
    refine r_u (o_as rfl) ?_
    refine r_nil ?_
    refine x_seq ?_
    refine c_ret ?_
    refine ex_st (fun _ h => st_some (f := ring_Rings.op g15) (a := r14.2) (st_star_f (A := ring_Rings.fl b7 r14.2 g15) h)) ?_
    obtain rfl := Option.some.inj hm20
    refine ex_st (fun _ h => st_pk 3 [1, 2, 0] (by decide) h) ?_
    exact x_r1 rfl (rv_t rfl) (Le.refl _) ⟨_, rfl, (⟨(pv1, g2), (pt b7 0, g15)⟩ : tiny_Tiny.G), rfl, rfl, rfl⟩

end Go.Proofs.Ytpanhdnglicknaa
