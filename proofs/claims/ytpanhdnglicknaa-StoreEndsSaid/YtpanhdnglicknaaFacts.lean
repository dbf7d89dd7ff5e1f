/-
  Facts on the types and functions of this seat's program, by a program of this session's.
-/
import Derived.Test.YtpanhdnglicknaaProg
import Derived.Test.YtpanhdnglicknaaHwC
import Derived.KernelRfl
set_option linter.unusedSimpArgs false
namespace Go.Proofs.Ytpanhdnglicknaa
open Go Go.Proofs.Ytpanhdnglicknaa.Hw
theorem sc0 : Sc Try.prog 0 := ⟨fun _ => by kernel_rfl, fun _ => by kernel_rfl⟩
theorem sc1 : Sc Try.prog 1 := ⟨fun _ => by kernel_rfl, fun _ => by kernel_rfl⟩
theorem ze1 : Ze Try.prog 1 [.nilFunc] := ⟨.nilFunc, rfl, fun _ => by kernel_rfl⟩
theorem sc2 : Sc Try.prog 2 := ⟨fun _ => by kernel_rfl, fun _ => by kernel_rfl⟩
theorem ze2 : Ze Try.prog 2 [.int .i64 0] := ⟨.int .i64 0, rfl, fun _ => by kernel_rfl⟩
theorem sc3 : Sc Try.prog 3 := ⟨fun _ => by kernel_rfl, fun _ => by kernel_rfl⟩
theorem ze3 : Ze Try.prog 3 [.int .i64 0] := ⟨.int .i64 0, rfl, fun _ => by kernel_rfl⟩
theorem sc4 : Sc Try.prog 4 := ⟨fun _ => by kernel_rfl, fun _ => by kernel_rfl⟩
theorem ze4 : Ze Try.prog 4 [.bool false] := ⟨.bool false, rfl, fun _ => by kernel_rfl⟩
theorem sc5 : Sc Try.prog 5 := ⟨fun _ => by kernel_rfl, fun _ => by kernel_rfl⟩
theorem ze5 : Ze Try.prog 5 [.int .u8 0] := ⟨.int .u8 0, rfl, fun _ => by kernel_rfl⟩
theorem sc6 : Sc Try.prog 6 := ⟨fun _ => by kernel_rfl, fun _ => by kernel_rfl⟩
theorem ze6 : Ze Try.prog 6 [.int .u8 0] := ⟨.int .u8 0, rfl, fun _ => by kernel_rfl⟩
theorem ag7 : Ag Try.prog 7 4 := ⟨fun _ => by kernel_rfl, fun _ => by kernel_rfl⟩
theorem fa7_0 : Fa Try.prog 7 0 0 := fun _ _ _ => by kernel_rfl
theorem fa7_1 : Fa Try.prog 7 1 1 := fun _ _ _ => by kernel_rfl
theorem fa7_2 : Fa Try.prog 7 2 2 := fun _ _ _ => by kernel_rfl
theorem fa7_3 : Fa Try.prog 7 3 3 := fun _ _ _ => by kernel_rfl
theorem ze7 : Ze Try.prog 7 [.int .i64 0, .int .i64 0, .bool false, .int .u8 0] := ⟨.agg #[.int .i64 0, .int .i64 0, .bool false, .int .u8 0], rfl, fun _ => by kernel_rfl⟩
theorem ag8 : Ag Try.prog 8 4 := ⟨fun _ => by kernel_rfl, fun _ => by kernel_rfl⟩
theorem fa8_0 : Fa Try.prog 8 0 0 := fun _ _ _ => by kernel_rfl
theorem fa8_1 : Fa Try.prog 8 1 1 := fun _ _ _ => by kernel_rfl
theorem fa8_2 : Fa Try.prog 8 2 2 := fun _ _ _ => by kernel_rfl
theorem fa8_3 : Fa Try.prog 8 3 3 := fun _ _ _ => by kernel_rfl
theorem ze8 : Ze Try.prog 8 [.int .i64 0, .int .i64 0, .bool false, .int .u8 0] := ⟨.agg #[.int .i64 0, .int .i64 0, .bool false, .int .u8 0], rfl, fun _ => by kernel_rfl⟩
theorem sc9 : Sc Try.prog 9 := ⟨fun _ => by kernel_rfl, fun _ => by kernel_rfl⟩
theorem ze9 : Ze Try.prog 9 [.string ⟨#[]⟩] := ⟨.string ⟨#[]⟩, rfl, fun _ => by kernel_rfl⟩
theorem sc10 : Sc Try.prog 10 := ⟨fun _ => by kernel_rfl, fun _ => by kernel_rfl⟩
theorem ze10 : Ze Try.prog 10 [.string ⟨#[]⟩] := ⟨.string ⟨#[]⟩, rfl, fun _ => by kernel_rfl⟩
theorem sc11 : Sc Try.prog 11 := ⟨fun _ => by kernel_rfl, fun _ => by kernel_rfl⟩
theorem ze11 : Ze Try.prog 11 [.string ⟨#[]⟩] := ⟨.string ⟨#[]⟩, rfl, fun _ => by kernel_rfl⟩
theorem sc12 : Sc Try.prog 12 := ⟨fun _ => by kernel_rfl, fun _ => by kernel_rfl⟩
theorem ze12 : Ze Try.prog 12 [.int .u64 0] := ⟨.int .u64 0, rfl, fun _ => by kernel_rfl⟩
theorem ag13 : Ag Try.prog 13 2 := ⟨fun _ => by kernel_rfl, fun _ => by kernel_rfl⟩
theorem fa13_0 : Fa Try.prog 13 0 0 := fun _ _ _ => by kernel_rfl
theorem fa13_1 : Fa Try.prog 13 1 1 := fun _ _ _ => by kernel_rfl
theorem ze13 : Ze Try.prog 13 [.string ⟨#[]⟩, .int .u64 0] := ⟨.agg #[.string ⟨#[]⟩, .int .u64 0], rfl, fun _ => by kernel_rfl⟩
theorem ag14 : Ag Try.prog 14 2 := ⟨fun _ => by kernel_rfl, fun _ => by kernel_rfl⟩
theorem fa14_0 : Fa Try.prog 14 0 0 := fun _ _ _ => by kernel_rfl
theorem fa14_1 : Fa Try.prog 14 1 1 := fun _ _ _ => by kernel_rfl
theorem ze14 : Ze Try.prog 14 [.string ⟨#[]⟩, .int .u64 0] := ⟨.agg #[.string ⟨#[]⟩, .int .u64 0], rfl, fun _ => by kernel_rfl⟩
theorem sc15 : Sc Try.prog 15 := ⟨fun _ => by kernel_rfl, fun _ => by kernel_rfl⟩
theorem ze15 : Ze Try.prog 15 [.pointer none] := ⟨.pointer none, rfl, fun _ => by kernel_rfl⟩
theorem sc16 : Sc Try.prog 16 := ⟨fun _ => by kernel_rfl, fun _ => by kernel_rfl⟩
theorem ze16 : Ze Try.prog 16 [.pointer none] := ⟨.pointer none, rfl, fun _ => by kernel_rfl⟩
theorem sc17 : Sc Try.prog 17 := ⟨fun _ => by kernel_rfl, fun _ => by kernel_rfl⟩
theorem ze17 : Ze Try.prog 17 [.pointer none] := ⟨.pointer none, rfl, fun _ => by kernel_rfl⟩
theorem ag18 : Ag Try.prog 18 1 := ⟨fun _ => by kernel_rfl, fun _ => by kernel_rfl⟩
theorem fa18_0 : Fa Try.prog 18 0 0 := fun _ _ _ => by kernel_rfl
theorem ze18 : Ze Try.prog 18 [.pointer none] := ⟨.agg #[.pointer none], rfl, fun _ => by kernel_rfl⟩
theorem ag19 : Ag Try.prog 19 1 := ⟨fun _ => by kernel_rfl, fun _ => by kernel_rfl⟩
theorem fa19_0 : Fa Try.prog 19 0 0 := fun _ _ _ => by kernel_rfl
theorem ze19 : Ze Try.prog 19 [.pointer none] := ⟨.agg #[.pointer none], rfl, fun _ => by kernel_rfl⟩
theorem sc20 : Sc Try.prog 20 := ⟨fun _ => by kernel_rfl, fun _ => by kernel_rfl⟩
theorem ze20 : Ze Try.prog 20 [.nilIface] := ⟨.nilIface, rfl, fun _ => by kernel_rfl⟩
theorem sc21 : Sc Try.prog 21 := ⟨fun _ => by kernel_rfl, fun _ => by kernel_rfl⟩
theorem ze21 : Ze Try.prog 21 [.int .i32 0] := ⟨.int .i32 0, rfl, fun _ => by kernel_rfl⟩
theorem sc22 : Sc Try.prog 22 := ⟨fun _ => by kernel_rfl, fun _ => by kernel_rfl⟩
theorem ze22 : Ze Try.prog 22 [.int .u64 0] := ⟨.int .u64 0, rfl, fun _ => by kernel_rfl⟩
theorem sc23 : Sc Try.prog 23 := ⟨fun _ => by kernel_rfl, fun _ => by kernel_rfl⟩
theorem ze23 : Ze Try.prog 23 [.nilFunc] := ⟨.nilFunc, rfl, fun _ => by kernel_rfl⟩
theorem sc24 : Sc Try.prog 24 := ⟨fun _ => by kernel_rfl, fun _ => by kernel_rfl⟩
theorem ze24 : Ze Try.prog 24 [.pointer none] := ⟨.pointer none, rfl, fun _ => by kernel_rfl⟩
theorem sc25 : Sc Try.prog 25 := ⟨fun _ => by kernel_rfl, fun _ => by kernel_rfl⟩
theorem ze25 : Ze Try.prog 25 [.int .i64 0] := ⟨.int .i64 0, rfl, fun _ => by kernel_rfl⟩
theorem sc26 : Sc Try.prog 26 := ⟨fun _ => by kernel_rfl, fun _ => by kernel_rfl⟩
theorem sc27 : Sc Try.prog 27 := ⟨fun _ => by kernel_rfl, fun _ => by kernel_rfl⟩
theorem ze27 : Ze Try.prog 27 [.nilFunc] := ⟨.nilFunc, rfl, fun _ => by kernel_rfl⟩
theorem ag28 : Ag Try.prog 28 4 := ⟨fun _ => by kernel_rfl, fun _ => by kernel_rfl⟩
theorem fa28_0 : Fa Try.prog 28 0 0 := fun _ _ _ => by kernel_rfl
theorem fa28_1 : Fa Try.prog 28 1 1 := fun _ _ _ => by kernel_rfl
theorem fa28_2 : Fa Try.prog 28 2 2 := fun _ _ _ => by kernel_rfl
theorem fa28_3 : Fa Try.prog 28 3 3 := fun _ _ _ => by kernel_rfl
theorem ze28 : Ze Try.prog 28 [.int .i64 0, .int .i64 0, .int .i64 0, .int .u64 0] := ⟨.agg #[.int .i64 0, .int .i64 0, .int .i64 0, .int .u64 0], rfl, fun _ => by kernel_rfl⟩
theorem ag29 : Ag Try.prog 29 4 := ⟨fun _ => by kernel_rfl, fun _ => by kernel_rfl⟩
theorem fa29_0 : Fa Try.prog 29 0 0 := fun _ _ _ => by kernel_rfl
theorem fa29_1 : Fa Try.prog 29 1 1 := fun _ _ _ => by kernel_rfl
theorem fa29_2 : Fa Try.prog 29 2 2 := fun _ _ _ => by kernel_rfl
theorem fa29_3 : Fa Try.prog 29 3 3 := fun _ _ _ => by kernel_rfl
theorem ze29 : Ze Try.prog 29 [.int .i64 0, .int .i64 0, .int .i64 0, .int .u64 0] := ⟨.agg #[.int .i64 0, .int .i64 0, .int .i64 0, .int .u64 0], rfl, fun _ => by kernel_rfl⟩
theorem ag30 : Ag Try.prog 30 5 := ⟨fun _ => by kernel_rfl, fun _ => by kernel_rfl⟩
theorem fa30_0 : Fa Try.prog 30 0 0 := fun _ _ _ => by kernel_rfl
theorem fa30_1 : Fa Try.prog 30 1 1 := fun _ _ _ => by kernel_rfl
theorem fa30_2 : Fa Try.prog 30 2 2 := fun _ _ _ => by kernel_rfl
theorem fa30_3 : Fa Try.prog 30 3 3 := fun _ _ _ => by kernel_rfl
theorem fa30_4 : Fa Try.prog 30 4 4 := fun _ _ _ => by kernel_rfl
theorem ze30 : Ze Try.prog 30 [.int .i64 0, .string ⟨#[]⟩, .string ⟨#[]⟩, .int .u64 0, .int .u64 0] := ⟨.agg #[.int .i64 0, .string ⟨#[]⟩, .string ⟨#[]⟩, .int .u64 0, .int .u64 0], rfl, fun _ => by kernel_rfl⟩
theorem ag31 : Ag Try.prog 31 5 := ⟨fun _ => by kernel_rfl, fun _ => by kernel_rfl⟩
theorem fa31_0 : Fa Try.prog 31 0 0 := fun _ _ _ => by kernel_rfl
theorem fa31_1 : Fa Try.prog 31 1 1 := fun _ _ _ => by kernel_rfl
theorem fa31_2 : Fa Try.prog 31 2 2 := fun _ _ _ => by kernel_rfl
theorem fa31_3 : Fa Try.prog 31 3 3 := fun _ _ _ => by kernel_rfl
theorem fa31_4 : Fa Try.prog 31 4 4 := fun _ _ _ => by kernel_rfl
theorem ze31 : Ze Try.prog 31 [.int .i64 0, .string ⟨#[]⟩, .string ⟨#[]⟩, .int .u64 0, .int .u64 0] := ⟨.agg #[.int .i64 0, .string ⟨#[]⟩, .string ⟨#[]⟩, .int .u64 0, .int .u64 0], rfl, fun _ => by kernel_rfl⟩
theorem ag32 : Ag Try.prog 32 3 := ⟨fun _ => by kernel_rfl, fun _ => by kernel_rfl⟩
theorem fa32_0 : Fa Try.prog 32 0 0 := fun _ _ _ => by kernel_rfl
theorem fa32_1 : Fa Try.prog 32 1 1 := fun _ _ _ => by kernel_rfl
theorem fa32_2 : Fa Try.prog 32 2 2 := fun _ _ _ => by kernel_rfl
theorem ze32 : Ze Try.prog 32 [.int .i64 0, .string ⟨#[]⟩, .int .u64 0] := ⟨.agg #[.int .i64 0, .string ⟨#[]⟩, .int .u64 0], rfl, fun _ => by kernel_rfl⟩
theorem ag33 : Ag Try.prog 33 3 := ⟨fun _ => by kernel_rfl, fun _ => by kernel_rfl⟩
theorem fa33_0 : Fa Try.prog 33 0 0 := fun _ _ _ => by kernel_rfl
theorem fa33_1 : Fa Try.prog 33 1 1 := fun _ _ _ => by kernel_rfl
theorem fa33_2 : Fa Try.prog 33 2 2 := fun _ _ _ => by kernel_rfl
theorem ze33 : Ze Try.prog 33 [.int .i64 0, .string ⟨#[]⟩, .int .u64 0] := ⟨.agg #[.int .i64 0, .string ⟨#[]⟩, .int .u64 0], rfl, fun _ => by kernel_rfl⟩
theorem sc34 : Sc Try.prog 34 := ⟨fun _ => by kernel_rfl, fun _ => by kernel_rfl⟩
theorem sc35 : Sc Try.prog 35 := ⟨fun _ => by kernel_rfl, fun _ => by kernel_rfl⟩
theorem ze35 : Ze Try.prog 35 [.nilFunc] := ⟨.nilFunc, rfl, fun _ => by kernel_rfl⟩
theorem ag36 : Ag Try.prog 36 9 := ⟨fun _ => by kernel_rfl, fun _ => by kernel_rfl⟩
theorem fa36_0 : Fa Try.prog 36 0 0 := fun _ _ _ => by kernel_rfl
theorem fa36_1 : Fa Try.prog 36 1 1 := fun _ _ _ => by kernel_rfl
theorem fa36_2 : Fa Try.prog 36 2 2 := fun _ _ _ => by kernel_rfl
theorem fa36_3 : Fa Try.prog 36 3 3 := fun _ _ _ => by kernel_rfl
theorem fa36_4 : Fa Try.prog 36 4 4 := fun _ _ _ => by kernel_rfl
theorem ze36 : Ze Try.prog 36 [.int .u64 0, .int .u64 0, .int .u64 0, .int .u64 0, .int .i64 0, .string ⟨#[]⟩, .string ⟨#[]⟩, .int .u64 0, .int .u64 0] := ⟨.agg #[.int .u64 0, .int .u64 0, .int .u64 0, .int .u64 0, .int .i64 0, .string ⟨#[]⟩, .string ⟨#[]⟩, .int .u64 0, .int .u64 0], rfl, fun _ => by kernel_rfl⟩
theorem ag37 : Ag Try.prog 37 9 := ⟨fun _ => by kernel_rfl, fun _ => by kernel_rfl⟩
theorem fa37_0 : Fa Try.prog 37 0 0 := fun _ _ _ => by kernel_rfl
theorem fa37_1 : Fa Try.prog 37 1 1 := fun _ _ _ => by kernel_rfl
theorem fa37_2 : Fa Try.prog 37 2 2 := fun _ _ _ => by kernel_rfl
theorem fa37_3 : Fa Try.prog 37 3 3 := fun _ _ _ => by kernel_rfl
theorem fa37_4 : Fa Try.prog 37 4 4 := fun _ _ _ => by kernel_rfl
theorem ze37 : Ze Try.prog 37 [.int .u64 0, .int .u64 0, .int .u64 0, .int .u64 0, .int .i64 0, .string ⟨#[]⟩, .string ⟨#[]⟩, .int .u64 0, .int .u64 0] := ⟨.agg #[.int .u64 0, .int .u64 0, .int .u64 0, .int .u64 0, .int .i64 0, .string ⟨#[]⟩, .string ⟨#[]⟩, .int .u64 0, .int .u64 0], rfl, fun _ => by kernel_rfl⟩
theorem sc38 : Sc Try.prog 38 := ⟨fun _ => by kernel_rfl, fun _ => by kernel_rfl⟩
theorem ze38 : Ze Try.prog 38 [.nilFunc] := ⟨.nilFunc, rfl, fun _ => by kernel_rfl⟩
theorem sc39 : Sc Try.prog 39 := ⟨fun _ => by kernel_rfl, fun _ => by kernel_rfl⟩
theorem ze39 : Ze Try.prog 39 [.nilFunc] := ⟨.nilFunc, rfl, fun _ => by kernel_rfl⟩
theorem sc40 : Sc Try.prog 40 := ⟨fun _ => by kernel_rfl, fun _ => by kernel_rfl⟩
theorem ze40 : Ze Try.prog 40 [.nilFunc] := ⟨.nilFunc, rfl, fun _ => by kernel_rfl⟩
theorem sc41 : Sc Try.prog 41 := ⟨fun _ => by kernel_rfl, fun _ => by kernel_rfl⟩
theorem ze41 : Ze Try.prog 41 [.slice none 0 0] := ⟨.slice none 0 0, rfl, fun _ => by kernel_rfl⟩
theorem sc42 : Sc Try.prog 42 := ⟨fun _ => by kernel_rfl, fun _ => by kernel_rfl⟩
theorem ze42 : Ze Try.prog 42 [.nilFunc] := ⟨.nilFunc, rfl, fun _ => by kernel_rfl⟩
theorem ag43 : Ag Try.prog 43 4 := ⟨fun _ => by kernel_rfl, fun _ => by kernel_rfl⟩
theorem fa43_0 : Fa Try.prog 43 0 0 := fun _ _ _ => by kernel_rfl
theorem fa43_1 : Fa Try.prog 43 1 1 := fun _ _ _ => by kernel_rfl
theorem fa43_2 : Fa Try.prog 43 2 2 := fun _ _ _ => by kernel_rfl
theorem fa43_3 : Fa Try.prog 43 3 3 := fun _ _ _ => by kernel_rfl
theorem ze43 : Ze Try.prog 43 [.string ⟨#[]⟩, .string ⟨#[]⟩, .int .u64 0, .int .u64 0] := ⟨.agg #[.string ⟨#[]⟩, .string ⟨#[]⟩, .int .u64 0, .int .u64 0], rfl, fun _ => by kernel_rfl⟩
theorem ag44 : Ag Try.prog 44 4 := ⟨fun _ => by kernel_rfl, fun _ => by kernel_rfl⟩
theorem fa44_0 : Fa Try.prog 44 0 0 := fun _ _ _ => by kernel_rfl
theorem fa44_1 : Fa Try.prog 44 1 1 := fun _ _ _ => by kernel_rfl
theorem fa44_2 : Fa Try.prog 44 2 2 := fun _ _ _ => by kernel_rfl
theorem fa44_3 : Fa Try.prog 44 3 3 := fun _ _ _ => by kernel_rfl
theorem ze44 : Ze Try.prog 44 [.string ⟨#[]⟩, .string ⟨#[]⟩, .int .u64 0, .int .u64 0] := ⟨.agg #[.string ⟨#[]⟩, .string ⟨#[]⟩, .int .u64 0, .int .u64 0], rfl, fun _ => by kernel_rfl⟩
theorem sc45 : Sc Try.prog 45 := ⟨fun _ => by kernel_rfl, fun _ => by kernel_rfl⟩
theorem ze45 : Ze Try.prog 45 [.nilFunc] := ⟨.nilFunc, rfl, fun _ => by kernel_rfl⟩
theorem sc46 : Sc Try.prog 46 := ⟨fun _ => by kernel_rfl, fun _ => by kernel_rfl⟩
theorem ze46 : Ze Try.prog 46 [.nilFunc] := ⟨.nilFunc, rfl, fun _ => by kernel_rfl⟩
theorem sc47 : Sc Try.prog 47 := ⟨fun _ => by kernel_rfl, fun _ => by kernel_rfl⟩
theorem ze47 : Ze Try.prog 47 [.nilFunc] := ⟨.nilFunc, rfl, fun _ => by kernel_rfl⟩
theorem sc48 : Sc Try.prog 48 := ⟨fun _ => by kernel_rfl, fun _ => by kernel_rfl⟩
theorem ze48 : Ze Try.prog 48 [.pointer none] := ⟨.pointer none, rfl, fun _ => by kernel_rfl⟩
theorem sc49 : Sc Try.prog 49 := ⟨fun _ => by kernel_rfl, fun _ => by kernel_rfl⟩
theorem sc50 : Sc Try.prog 50 := ⟨fun _ => by kernel_rfl, fun _ => by kernel_rfl⟩
theorem ze50 : Ze Try.prog 50 [.nilFunc] := ⟨.nilFunc, rfl, fun _ => by kernel_rfl⟩
theorem sc51 : Sc Try.prog 51 := ⟨fun _ => by kernel_rfl, fun _ => by kernel_rfl⟩
theorem ze51 : Ze Try.prog 51 [.pointer none] := ⟨.pointer none, rfl, fun _ => by kernel_rfl⟩
theorem sc52 : Sc Try.prog 52 := ⟨fun _ => by kernel_rfl, fun _ => by kernel_rfl⟩
theorem ze52 : Ze Try.prog 52 [.nilFunc] := ⟨.nilFunc, rfl, fun _ => by kernel_rfl⟩
theorem sc53 : Sc Try.prog 53 := ⟨fun _ => by kernel_rfl, fun _ => by kernel_rfl⟩
theorem ze53 : Ze Try.prog 53 [.map none] := ⟨.map none, rfl, fun _ => by kernel_rfl⟩
theorem ag54 : Ag Try.prog 54 2 := ⟨fun _ => by kernel_rfl, fun _ => by kernel_rfl⟩
theorem fa54_0 : Fa Try.prog 54 0 0 := fun _ _ _ => by kernel_rfl
theorem fa54_1 : Fa Try.prog 54 1 1 := fun _ _ _ => by kernel_rfl
theorem ze54 : Ze Try.prog 54 [.int .i64 0, .int .i64 0] := ⟨.agg #[.int .i64 0, .int .i64 0], rfl, fun _ => by kernel_rfl⟩
theorem ag55 : Ag Try.prog 55 2 := ⟨fun _ => by kernel_rfl, fun _ => by kernel_rfl⟩
theorem fa55_0 : Fa Try.prog 55 0 0 := fun _ _ _ => by kernel_rfl
theorem fa55_1 : Fa Try.prog 55 1 1 := fun _ _ _ => by kernel_rfl
theorem ze55 : Ze Try.prog 55 [.int .i64 0, .int .i64 0] := ⟨.agg #[.int .i64 0, .int .i64 0], rfl, fun _ => by kernel_rfl⟩
theorem ag56 : Ag Try.prog 56 12 := ⟨fun _ => by kernel_rfl, fun _ => by kernel_rfl⟩
theorem fa56_0 : Fa Try.prog 56 0 0 := fun _ _ _ => by kernel_rfl
theorem fa56_1 : Fa Try.prog 56 1 4 := fun _ _ _ => by kernel_rfl
theorem fa56_2 : Fa Try.prog 56 2 5 := fun _ _ _ => by kernel_rfl
theorem fa56_3 : Fa Try.prog 56 3 6 := fun _ _ _ => by kernel_rfl
theorem fa56_4 : Fa Try.prog 56 4 7 := fun _ _ _ => by kernel_rfl
theorem fa56_5 : Fa Try.prog 56 5 8 := fun _ _ _ => by kernel_rfl
theorem fa56_6 : Fa Try.prog 56 6 9 := fun _ _ _ => by kernel_rfl
theorem fa56_7 : Fa Try.prog 56 7 10 := fun _ _ _ => by kernel_rfl
theorem ze56 : Ze Try.prog 56 [.int .i64 0, .int .i64 0, .int .i64 0, .int .u64 0, .pointer none, .pointer none, .map none, .int .u64 0, .int .u64 0, .int .u64 0, .int .i64 0, .int .i64 0] := ⟨.agg #[.int .i64 0, .int .i64 0, .int .i64 0, .int .u64 0, .pointer none, .pointer none, .map none, .int .u64 0, .int .u64 0, .int .u64 0, .int .i64 0, .int .i64 0], rfl, fun _ => by kernel_rfl⟩
theorem ag57 : Ag Try.prog 57 12 := ⟨fun _ => by kernel_rfl, fun _ => by kernel_rfl⟩
theorem fa57_0 : Fa Try.prog 57 0 0 := fun _ _ _ => by kernel_rfl
theorem fa57_1 : Fa Try.prog 57 1 4 := fun _ _ _ => by kernel_rfl
theorem fa57_2 : Fa Try.prog 57 2 5 := fun _ _ _ => by kernel_rfl
theorem fa57_3 : Fa Try.prog 57 3 6 := fun _ _ _ => by kernel_rfl
theorem fa57_4 : Fa Try.prog 57 4 7 := fun _ _ _ => by kernel_rfl
theorem fa57_5 : Fa Try.prog 57 5 8 := fun _ _ _ => by kernel_rfl
theorem fa57_6 : Fa Try.prog 57 6 9 := fun _ _ _ => by kernel_rfl
theorem fa57_7 : Fa Try.prog 57 7 10 := fun _ _ _ => by kernel_rfl
theorem ze57 : Ze Try.prog 57 [.int .i64 0, .int .i64 0, .int .i64 0, .int .u64 0, .pointer none, .pointer none, .map none, .int .u64 0, .int .u64 0, .int .u64 0, .int .i64 0, .int .i64 0] := ⟨.agg #[.int .i64 0, .int .i64 0, .int .i64 0, .int .u64 0, .pointer none, .pointer none, .map none, .int .u64 0, .int .u64 0, .int .u64 0, .int .i64 0, .int .i64 0], rfl, fun _ => by kernel_rfl⟩
theorem sc58 : Sc Try.prog 58 := ⟨fun _ => by kernel_rfl, fun _ => by kernel_rfl⟩
theorem ze58 : Ze Try.prog 58 [.nilFunc] := ⟨.nilFunc, rfl, fun _ => by kernel_rfl⟩
theorem sc59 : Sc Try.prog 59 := ⟨fun _ => by kernel_rfl, fun _ => by kernel_rfl⟩
theorem ze59 : Ze Try.prog 59 [.slice none 0 0] := ⟨.slice none 0 0, rfl, fun _ => by kernel_rfl⟩
theorem sc60 : Sc Try.prog 60 := ⟨fun _ => by kernel_rfl, fun _ => by kernel_rfl⟩
theorem ze60 : Ze Try.prog 60 [.nilFunc] := ⟨.nilFunc, rfl, fun _ => by kernel_rfl⟩
theorem sc61 : Sc Try.prog 61 := ⟨fun _ => by kernel_rfl, fun _ => by kernel_rfl⟩
theorem ze61 : Ze Try.prog 61 [.nilFunc] := ⟨.nilFunc, rfl, fun _ => by kernel_rfl⟩
theorem ag62 : Ag Try.prog 62 4 := ⟨fun _ => by kernel_rfl, fun _ => by kernel_rfl⟩
theorem fa62_0 : Fa Try.prog 62 0 0 := fun _ _ _ => by kernel_rfl
theorem fa62_1 : Fa Try.prog 62 1 1 := fun _ _ _ => by kernel_rfl
theorem ze62 : Ze Try.prog 62 [.int .u64 0, .int .i64 0, .string ⟨#[]⟩, .int .u64 0] := ⟨.agg #[.int .u64 0, .int .i64 0, .string ⟨#[]⟩, .int .u64 0], rfl, fun _ => by kernel_rfl⟩
theorem ag63 : Ag Try.prog 63 4 := ⟨fun _ => by kernel_rfl, fun _ => by kernel_rfl⟩
theorem fa63_0 : Fa Try.prog 63 0 0 := fun _ _ _ => by kernel_rfl
theorem fa63_1 : Fa Try.prog 63 1 1 := fun _ _ _ => by kernel_rfl
theorem ze63 : Ze Try.prog 63 [.int .u64 0, .int .i64 0, .string ⟨#[]⟩, .int .u64 0] := ⟨.agg #[.int .u64 0, .int .i64 0, .string ⟨#[]⟩, .int .u64 0], rfl, fun _ => by kernel_rfl⟩
theorem sc64 : Sc Try.prog 64 := ⟨fun _ => by kernel_rfl, fun _ => by kernel_rfl⟩
theorem sc65 : Sc Try.prog 65 := ⟨fun _ => by kernel_rfl, fun _ => by kernel_rfl⟩
theorem ze65 : Ze Try.prog 65 [.nilFunc] := ⟨.nilFunc, rfl, fun _ => by kernel_rfl⟩
theorem sc66 : Sc Try.prog 66 := ⟨fun _ => by kernel_rfl, fun _ => by kernel_rfl⟩
theorem ze66 : Ze Try.prog 66 [.nilFunc] := ⟨.nilFunc, rfl, fun _ => by kernel_rfl⟩
theorem sc67 : Sc Try.prog 67 := ⟨fun _ => by kernel_rfl, fun _ => by kernel_rfl⟩
theorem sc68 : Sc Try.prog 68 := ⟨fun _ => by kernel_rfl, fun _ => by kernel_rfl⟩
theorem ze68 : Ze Try.prog 68 [.nilFunc] := ⟨.nilFunc, rfl, fun _ => by kernel_rfl⟩
theorem sc69 : Sc Try.prog 69 := ⟨fun _ => by kernel_rfl, fun _ => by kernel_rfl⟩
theorem ze69 : Ze Try.prog 69 [.pointer none] := ⟨.pointer none, rfl, fun _ => by kernel_rfl⟩
theorem sc70 : Sc Try.prog 70 := ⟨fun _ => by kernel_rfl, fun _ => by kernel_rfl⟩
theorem ze70 : Ze Try.prog 70 [.pointer none] := ⟨.pointer none, rfl, fun _ => by kernel_rfl⟩
theorem ag71 : Ag Try.prog 71 3 := ⟨fun _ => by kernel_rfl, fun _ => by kernel_rfl⟩
theorem fa71_0 : Fa Try.prog 71 0 0 := fun _ _ _ => by kernel_rfl
theorem fa71_1 : Fa Try.prog 71 1 1 := fun _ _ _ => by kernel_rfl
theorem fa71_2 : Fa Try.prog 71 2 2 := fun _ _ _ => by kernel_rfl
theorem ze71 : Ze Try.prog 71 [.int .i64 0, .pointer none, .pointer none] := ⟨.agg #[.int .i64 0, .pointer none, .pointer none], rfl, fun _ => by kernel_rfl⟩
theorem ag72 : Ag Try.prog 72 3 := ⟨fun _ => by kernel_rfl, fun _ => by kernel_rfl⟩
theorem fa72_0 : Fa Try.prog 72 0 0 := fun _ _ _ => by kernel_rfl
theorem fa72_1 : Fa Try.prog 72 1 1 := fun _ _ _ => by kernel_rfl
theorem fa72_2 : Fa Try.prog 72 2 2 := fun _ _ _ => by kernel_rfl
theorem ze72 : Ze Try.prog 72 [.int .i64 0, .pointer none, .pointer none] := ⟨.agg #[.int .i64 0, .pointer none, .pointer none], rfl, fun _ => by kernel_rfl⟩
theorem sc73 : Sc Try.prog 73 := ⟨fun _ => by kernel_rfl, fun _ => by kernel_rfl⟩
theorem sc74 : Sc Try.prog 74 := ⟨fun _ => by kernel_rfl, fun _ => by kernel_rfl⟩
theorem ze74 : Ze Try.prog 74 [.nilFunc] := ⟨.nilFunc, rfl, fun _ => by kernel_rfl⟩
theorem sc75 : Sc Try.prog 75 := ⟨fun _ => by kernel_rfl, fun _ => by kernel_rfl⟩
theorem sc76 : Sc Try.prog 76 := ⟨fun _ => by kernel_rfl, fun _ => by kernel_rfl⟩
theorem ze76 : Ze Try.prog 76 [.nilFunc] := ⟨.nilFunc, rfl, fun _ => by kernel_rfl⟩
theorem sc77 : Sc Try.prog 77 := ⟨fun _ => by kernel_rfl, fun _ => by kernel_rfl⟩
theorem ze77 : Ze Try.prog 77 [.map none] := ⟨.map none, rfl, fun _ => by kernel_rfl⟩
theorem ag78 : Ag Try.prog 78 2 := ⟨fun _ => by kernel_rfl, fun _ => by kernel_rfl⟩
theorem fa78_0 : Fa Try.prog 78 0 0 := fun _ _ _ => by kernel_rfl
theorem fa78_1 : Fa Try.prog 78 1 1 := fun _ _ _ => by kernel_rfl
theorem ze78 : Ze Try.prog 78 [.map none, .int .i64 0] := ⟨.agg #[.map none, .int .i64 0], rfl, fun _ => by kernel_rfl⟩
theorem ag79 : Ag Try.prog 79 2 := ⟨fun _ => by kernel_rfl, fun _ => by kernel_rfl⟩
theorem fa79_0 : Fa Try.prog 79 0 0 := fun _ _ _ => by kernel_rfl
theorem fa79_1 : Fa Try.prog 79 1 1 := fun _ _ _ => by kernel_rfl
theorem ze79 : Ze Try.prog 79 [.map none, .int .i64 0] := ⟨.agg #[.map none, .int .i64 0], rfl, fun _ => by kernel_rfl⟩
theorem sc80 : Sc Try.prog 80 := ⟨fun _ => by kernel_rfl, fun _ => by kernel_rfl⟩
theorem ze80 : Ze Try.prog 80 [.nilFunc] := ⟨.nilFunc, rfl, fun _ => by kernel_rfl⟩
theorem sc81 : Sc Try.prog 81 := ⟨fun _ => by kernel_rfl, fun _ => by kernel_rfl⟩
theorem ze81 : Ze Try.prog 81 [.nilFunc] := ⟨.nilFunc, rfl, fun _ => by kernel_rfl⟩
theorem sc82 : Sc Try.prog 82 := ⟨fun _ => by kernel_rfl, fun _ => by kernel_rfl⟩
theorem ze82 : Ze Try.prog 82 [.nilFunc] := ⟨.nilFunc, rfl, fun _ => by kernel_rfl⟩
theorem sc83 : Sc Try.prog 83 := ⟨fun _ => by kernel_rfl, fun _ => by kernel_rfl⟩
theorem ze83 : Ze Try.prog 83 [.nilFunc] := ⟨.nilFunc, rfl, fun _ => by kernel_rfl⟩
theorem sc84 : Sc Try.prog 84 := ⟨fun _ => by kernel_rfl, fun _ => by kernel_rfl⟩
theorem ze84 : Ze Try.prog 84 [.nilFunc] := ⟨.nilFunc, rfl, fun _ => by kernel_rfl⟩
theorem sc85 : Sc Try.prog 85 := ⟨fun _ => by kernel_rfl, fun _ => by kernel_rfl⟩
theorem ze85 : Ze Try.prog 85 [.nilFunc] := ⟨.nilFunc, rfl, fun _ => by kernel_rfl⟩
theorem sc86 : Sc Try.prog 86 := ⟨fun _ => by kernel_rfl, fun _ => by kernel_rfl⟩
theorem ze86 : Ze Try.prog 86 [.nilFunc] := ⟨.nilFunc, rfl, fun _ => by kernel_rfl⟩
theorem sc87 : Sc Try.prog 87 := ⟨fun _ => by kernel_rfl, fun _ => by kernel_rfl⟩
theorem ze87 : Ze Try.prog 87 [.nilFunc] := ⟨.nilFunc, rfl, fun _ => by kernel_rfl⟩
theorem sc88 : Sc Try.prog 88 := ⟨fun _ => by kernel_rfl, fun _ => by kernel_rfl⟩
theorem ze88 : Ze Try.prog 88 [.pointer none] := ⟨.pointer none, rfl, fun _ => by kernel_rfl⟩
theorem sc89 : Sc Try.prog 89 := ⟨fun _ => by kernel_rfl, fun _ => by kernel_rfl⟩
theorem sc90 : Sc Try.prog 90 := ⟨fun _ => by kernel_rfl, fun _ => by kernel_rfl⟩
theorem ze90 : Ze Try.prog 90 [.nilFunc] := ⟨.nilFunc, rfl, fun _ => by kernel_rfl⟩
theorem ag91 : Ag Try.prog 91 3 := ⟨fun _ => by kernel_rfl, fun _ => by kernel_rfl⟩
theorem fa91_0 : Fa Try.prog 91 0 0 := fun _ _ _ => by kernel_rfl
theorem fa91_1 : Fa Try.prog 91 1 1 := fun _ _ _ => by kernel_rfl
theorem fa91_2 : Fa Try.prog 91 2 2 := fun _ _ _ => by kernel_rfl
theorem ze91 : Ze Try.prog 91 [.int .i64 0, .int .i64 0, .pointer none] := ⟨.agg #[.int .i64 0, .int .i64 0, .pointer none], rfl, fun _ => by kernel_rfl⟩
theorem ag92 : Ag Try.prog 92 3 := ⟨fun _ => by kernel_rfl, fun _ => by kernel_rfl⟩
theorem fa92_0 : Fa Try.prog 92 0 0 := fun _ _ _ => by kernel_rfl
theorem fa92_1 : Fa Try.prog 92 1 1 := fun _ _ _ => by kernel_rfl
theorem fa92_2 : Fa Try.prog 92 2 2 := fun _ _ _ => by kernel_rfl
theorem ze92 : Ze Try.prog 92 [.int .i64 0, .int .i64 0, .pointer none] := ⟨.agg #[.int .i64 0, .int .i64 0, .pointer none], rfl, fun _ => by kernel_rfl⟩
theorem sc93 : Sc Try.prog 93 := ⟨fun _ => by kernel_rfl, fun _ => by kernel_rfl⟩
theorem ze93 : Ze Try.prog 93 [.pointer none] := ⟨.pointer none, rfl, fun _ => by kernel_rfl⟩
theorem sc94 : Sc Try.prog 94 := ⟨fun _ => by kernel_rfl, fun _ => by kernel_rfl⟩
theorem sc95 : Sc Try.prog 95 := ⟨fun _ => by kernel_rfl, fun _ => by kernel_rfl⟩
theorem ze95 : Ze Try.prog 95 [.nilFunc] := ⟨.nilFunc, rfl, fun _ => by kernel_rfl⟩
theorem sc96 : Sc Try.prog 96 := ⟨fun _ => by kernel_rfl, fun _ => by kernel_rfl⟩
theorem ze96 : Ze Try.prog 96 [.nilFunc] := ⟨.nilFunc, rfl, fun _ => by kernel_rfl⟩
theorem ag97 : Ag Try.prog 97 3 := ⟨fun _ => by kernel_rfl, fun _ => by kernel_rfl⟩
theorem fa97_0 : Fa Try.prog 97 0 0 := fun _ _ _ => by kernel_rfl
theorem fa97_1 : Fa Try.prog 97 1 1 := fun _ _ _ => by kernel_rfl
theorem fa97_2 : Fa Try.prog 97 2 2 := fun _ _ _ => by kernel_rfl
theorem ze97 : Ze Try.prog 97 [.int .i64 0, .pointer none, .pointer none] := ⟨.agg #[.int .i64 0, .pointer none, .pointer none], rfl, fun _ => by kernel_rfl⟩
theorem ag98 : Ag Try.prog 98 3 := ⟨fun _ => by kernel_rfl, fun _ => by kernel_rfl⟩
theorem fa98_0 : Fa Try.prog 98 0 0 := fun _ _ _ => by kernel_rfl
theorem fa98_1 : Fa Try.prog 98 1 1 := fun _ _ _ => by kernel_rfl
theorem fa98_2 : Fa Try.prog 98 2 2 := fun _ _ _ => by kernel_rfl
theorem ze98 : Ze Try.prog 98 [.int .i64 0, .pointer none, .pointer none] := ⟨.agg #[.int .i64 0, .pointer none, .pointer none], rfl, fun _ => by kernel_rfl⟩
theorem sc99 : Sc Try.prog 99 := ⟨fun _ => by kernel_rfl, fun _ => by kernel_rfl⟩
theorem ze99 : Ze Try.prog 99 [.nilFunc] := ⟨.nilFunc, rfl, fun _ => by kernel_rfl⟩
theorem sc100 : Sc Try.prog 100 := ⟨fun _ => by kernel_rfl, fun _ => by kernel_rfl⟩
theorem ze100 : Ze Try.prog 100 [.nilFunc] := ⟨.nilFunc, rfl, fun _ => by kernel_rfl⟩
theorem sc101 : Sc Try.prog 101 := ⟨fun _ => by kernel_rfl, fun _ => by kernel_rfl⟩
theorem ze101 : Ze Try.prog 101 [.nilFunc] := ⟨.nilFunc, rfl, fun _ => by kernel_rfl⟩
theorem sc102 : Sc Try.prog 102 := ⟨fun _ => by kernel_rfl, fun _ => by kernel_rfl⟩
theorem sc103 : Sc Try.prog 103 := ⟨fun _ => by kernel_rfl, fun _ => by kernel_rfl⟩
theorem ze103 : Ze Try.prog 103 [.nilFunc] := ⟨.nilFunc, rfl, fun _ => by kernel_rfl⟩
theorem sc104 : Sc Try.prog 104 := ⟨fun _ => by kernel_rfl, fun _ => by kernel_rfl⟩
theorem ze104 : Ze Try.prog 104 [.nilFunc] := ⟨.nilFunc, rfl, fun _ => by kernel_rfl⟩
theorem sc105 : Sc Try.prog 105 := ⟨fun _ => by kernel_rfl, fun _ => by kernel_rfl⟩
theorem ze105 : Ze Try.prog 105 [.map none] := ⟨.map none, rfl, fun _ => by kernel_rfl⟩
theorem sc106 : Sc Try.prog 106 := ⟨fun _ => by kernel_rfl, fun _ => by kernel_rfl⟩
theorem ze106 : Ze Try.prog 106 [.slice none 0 0] := ⟨.slice none 0 0, rfl, fun _ => by kernel_rfl⟩
theorem sc107 : Sc Try.prog 107 := ⟨fun _ => by kernel_rfl, fun _ => by kernel_rfl⟩
theorem ze107 : Ze Try.prog 107 [.slice none 0 0] := ⟨.slice none 0 0, rfl, fun _ => by kernel_rfl⟩
theorem ag108 : Ag Try.prog 108 5 := ⟨fun _ => by kernel_rfl, fun _ => by kernel_rfl⟩
theorem fa108_0 : Fa Try.prog 108 0 0 := fun _ _ _ => by kernel_rfl
theorem fa108_1 : Fa Try.prog 108 1 1 := fun _ _ _ => by kernel_rfl
theorem fa108_2 : Fa Try.prog 108 2 2 := fun _ _ _ => by kernel_rfl
theorem fa108_3 : Fa Try.prog 108 3 3 := fun _ _ _ => by kernel_rfl
theorem fa108_4 : Fa Try.prog 108 4 4 := fun _ _ _ => by kernel_rfl
theorem ze108 : Ze Try.prog 108 [.int .i64 0, .slice none 0 0, .slice none 0 0, .map none, .slice none 0 0] := ⟨.agg #[.int .i64 0, .slice none 0 0, .slice none 0 0, .map none, .slice none 0 0], rfl, fun _ => by kernel_rfl⟩
theorem ag109 : Ag Try.prog 109 5 := ⟨fun _ => by kernel_rfl, fun _ => by kernel_rfl⟩
theorem fa109_0 : Fa Try.prog 109 0 0 := fun _ _ _ => by kernel_rfl
theorem fa109_1 : Fa Try.prog 109 1 1 := fun _ _ _ => by kernel_rfl
theorem fa109_2 : Fa Try.prog 109 2 2 := fun _ _ _ => by kernel_rfl
theorem fa109_3 : Fa Try.prog 109 3 3 := fun _ _ _ => by kernel_rfl
theorem fa109_4 : Fa Try.prog 109 4 4 := fun _ _ _ => by kernel_rfl
theorem ze109 : Ze Try.prog 109 [.int .i64 0, .slice none 0 0, .slice none 0 0, .map none, .slice none 0 0] := ⟨.agg #[.int .i64 0, .slice none 0 0, .slice none 0 0, .map none, .slice none 0 0], rfl, fun _ => by kernel_rfl⟩
theorem ag110 : Ag Try.prog 110 4 := ⟨fun _ => by kernel_rfl, fun _ => by kernel_rfl⟩
theorem fa110_0 : Fa Try.prog 110 0 0 := fun _ _ _ => by kernel_rfl
theorem fa110_1 : Fa Try.prog 110 1 1 := fun _ _ _ => by kernel_rfl
theorem fa110_2 : Fa Try.prog 110 2 2 := fun _ _ _ => by kernel_rfl
theorem fa110_3 : Fa Try.prog 110 3 3 := fun _ _ _ => by kernel_rfl
theorem ze110 : Ze Try.prog 110 [.string ⟨#[]⟩, .int .i64 0, .int .i64 0, .int .i64 0] := ⟨.agg #[.string ⟨#[]⟩, .int .i64 0, .int .i64 0, .int .i64 0], rfl, fun _ => by kernel_rfl⟩
theorem ag111 : Ag Try.prog 111 4 := ⟨fun _ => by kernel_rfl, fun _ => by kernel_rfl⟩
theorem fa111_0 : Fa Try.prog 111 0 0 := fun _ _ _ => by kernel_rfl
theorem fa111_1 : Fa Try.prog 111 1 1 := fun _ _ _ => by kernel_rfl
theorem fa111_2 : Fa Try.prog 111 2 2 := fun _ _ _ => by kernel_rfl
theorem fa111_3 : Fa Try.prog 111 3 3 := fun _ _ _ => by kernel_rfl
theorem ze111 : Ze Try.prog 111 [.string ⟨#[]⟩, .int .i64 0, .int .i64 0, .int .i64 0] := ⟨.agg #[.string ⟨#[]⟩, .int .i64 0, .int .i64 0, .int .i64 0], rfl, fun _ => by kernel_rfl⟩
theorem sc112 : Sc Try.prog 112 := ⟨fun _ => by kernel_rfl, fun _ => by kernel_rfl⟩
theorem ze112 : Ze Try.prog 112 [.slice none 0 0] := ⟨.slice none 0 0, rfl, fun _ => by kernel_rfl⟩
theorem sc113 : Sc Try.prog 113 := ⟨fun _ => by kernel_rfl, fun _ => by kernel_rfl⟩
theorem ze113 : Ze Try.prog 113 [.slice none 0 0] := ⟨.slice none 0 0, rfl, fun _ => by kernel_rfl⟩
theorem ag114 : Ag Try.prog 114 4 := ⟨fun _ => by kernel_rfl, fun _ => by kernel_rfl⟩
theorem ze114 : Ze Try.prog 114 [.slice none 0 0, .slice none 0 0, .slice none 0 0, .slice none 0 0] := ⟨.agg #[.slice none 0 0, .slice none 0 0, .slice none 0 0, .slice none 0 0], rfl, fun _ => by kernel_rfl⟩
theorem ag115 : Ag Try.prog 115 8 := ⟨fun _ => by kernel_rfl, fun _ => by kernel_rfl⟩
theorem fa115_0 : Fa Try.prog 115 0 0 := fun _ _ _ => by kernel_rfl
theorem fa115_1 : Fa Try.prog 115 1 1 := fun _ _ _ => by kernel_rfl
theorem fa115_2 : Fa Try.prog 115 2 2 := fun _ _ _ => by kernel_rfl
theorem fa115_3 : Fa Try.prog 115 3 6 := fun _ _ _ => by kernel_rfl
theorem fa115_4 : Fa Try.prog 115 4 7 := fun _ _ _ => by kernel_rfl
theorem ze115 : Ze Try.prog 115 [.int .i64 0, .int .u64 0, .slice none 0 0, .slice none 0 0, .slice none 0 0, .slice none 0 0, .slice none 0 0, .int .i64 0] := ⟨.agg #[.int .i64 0, .int .u64 0, .slice none 0 0, .slice none 0 0, .slice none 0 0, .slice none 0 0, .slice none 0 0, .int .i64 0], rfl, fun _ => by kernel_rfl⟩
theorem ag116 : Ag Try.prog 116 8 := ⟨fun _ => by kernel_rfl, fun _ => by kernel_rfl⟩
theorem fa116_0 : Fa Try.prog 116 0 0 := fun _ _ _ => by kernel_rfl
theorem fa116_1 : Fa Try.prog 116 1 1 := fun _ _ _ => by kernel_rfl
theorem fa116_2 : Fa Try.prog 116 2 2 := fun _ _ _ => by kernel_rfl
theorem fa116_3 : Fa Try.prog 116 3 6 := fun _ _ _ => by kernel_rfl
theorem fa116_4 : Fa Try.prog 116 4 7 := fun _ _ _ => by kernel_rfl
theorem ze116 : Ze Try.prog 116 [.int .i64 0, .int .u64 0, .slice none 0 0, .slice none 0 0, .slice none 0 0, .slice none 0 0, .slice none 0 0, .int .i64 0] := ⟨.agg #[.int .i64 0, .int .u64 0, .slice none 0 0, .slice none 0 0, .slice none 0 0, .slice none 0 0, .slice none 0 0, .int .i64 0], rfl, fun _ => by kernel_rfl⟩
theorem sc117 : Sc Try.prog 117 := ⟨fun _ => by kernel_rfl, fun _ => by kernel_rfl⟩
theorem sc118 : Sc Try.prog 118 := ⟨fun _ => by kernel_rfl, fun _ => by kernel_rfl⟩
theorem ze118 : Ze Try.prog 118 [.nilFunc] := ⟨.nilFunc, rfl, fun _ => by kernel_rfl⟩
theorem sc119 : Sc Try.prog 119 := ⟨fun _ => by kernel_rfl, fun _ => by kernel_rfl⟩
theorem ze119 : Ze Try.prog 119 [.nilFunc] := ⟨.nilFunc, rfl, fun _ => by kernel_rfl⟩
theorem ag120 : Ag Try.prog 120 2 := ⟨fun _ => by kernel_rfl, fun _ => by kernel_rfl⟩
theorem fa120_0 : Fa Try.prog 120 0 0 := fun _ _ _ => by kernel_rfl
theorem fa120_1 : Fa Try.prog 120 1 1 := fun _ _ _ => by kernel_rfl
theorem ze120 : Ze Try.prog 120 [.int .i64 0, .int .i64 0] := ⟨.agg #[.int .i64 0, .int .i64 0], rfl, fun _ => by kernel_rfl⟩
theorem ag121 : Ag Try.prog 121 2 := ⟨fun _ => by kernel_rfl, fun _ => by kernel_rfl⟩
theorem fa121_0 : Fa Try.prog 121 0 0 := fun _ _ _ => by kernel_rfl
theorem fa121_1 : Fa Try.prog 121 1 1 := fun _ _ _ => by kernel_rfl
theorem ze121 : Ze Try.prog 121 [.int .i64 0, .int .i64 0] := ⟨.agg #[.int .i64 0, .int .i64 0], rfl, fun _ => by kernel_rfl⟩
theorem sc122 : Sc Try.prog 122 := ⟨fun _ => by kernel_rfl, fun _ => by kernel_rfl⟩
theorem ze122 : Ze Try.prog 122 [.nilFunc] := ⟨.nilFunc, rfl, fun _ => by kernel_rfl⟩
theorem sc123 : Sc Try.prog 123 := ⟨fun _ => by kernel_rfl, fun _ => by kernel_rfl⟩
theorem ze123 : Ze Try.prog 123 [.nilFunc] := ⟨.nilFunc, rfl, fun _ => by kernel_rfl⟩
theorem sc124 : Sc Try.prog 124 := ⟨fun _ => by kernel_rfl, fun _ => by kernel_rfl⟩
theorem ze124 : Ze Try.prog 124 [.nilFunc] := ⟨.nilFunc, rfl, fun _ => by kernel_rfl⟩
theorem sc125 : Sc Try.prog 125 := ⟨fun _ => by kernel_rfl, fun _ => by kernel_rfl⟩
theorem ze125 : Ze Try.prog 125 [.nilFunc] := ⟨.nilFunc, rfl, fun _ => by kernel_rfl⟩
theorem sc126 : Sc Try.prog 126 := ⟨fun _ => by kernel_rfl, fun _ => by kernel_rfl⟩
theorem ze126 : Ze Try.prog 126 [.nilFunc] := ⟨.nilFunc, rfl, fun _ => by kernel_rfl⟩
theorem sc127 : Sc Try.prog 127 := ⟨fun _ => by kernel_rfl, fun _ => by kernel_rfl⟩
theorem ze127 : Ze Try.prog 127 [.int .u64 0] := ⟨.int .u64 0, rfl, fun _ => by kernel_rfl⟩
theorem sc128 : Sc Try.prog 128 := ⟨fun _ => by kernel_rfl, fun _ => by kernel_rfl⟩
theorem ze128 : Ze Try.prog 128 [.pointer none] := ⟨.pointer none, rfl, fun _ => by kernel_rfl⟩
theorem sc129 : Sc Try.prog 129 := ⟨fun _ => by kernel_rfl, fun _ => by kernel_rfl⟩
theorem ze129 : Ze Try.prog 129 [.nilFunc] := ⟨.nilFunc, rfl, fun _ => by kernel_rfl⟩
theorem sc130 : Sc Try.prog 130 := ⟨fun _ => by kernel_rfl, fun _ => by kernel_rfl⟩
theorem ze130 : Ze Try.prog 130 [.nilFunc] := ⟨.nilFunc, rfl, fun _ => by kernel_rfl⟩
theorem sc131 : Sc Try.prog 131 := ⟨fun _ => by kernel_rfl, fun _ => by kernel_rfl⟩
theorem ze131 : Ze Try.prog 131 [.nilFunc] := ⟨.nilFunc, rfl, fun _ => by kernel_rfl⟩
theorem sc132 : Sc Try.prog 132 := ⟨fun _ => by kernel_rfl, fun _ => by kernel_rfl⟩
theorem ze132 : Ze Try.prog 132 [.nilFunc] := ⟨.nilFunc, rfl, fun _ => by kernel_rfl⟩
theorem sc133 : Sc Try.prog 133 := ⟨fun _ => by kernel_rfl, fun _ => by kernel_rfl⟩
theorem ze133 : Ze Try.prog 133 [.nilFunc] := ⟨.nilFunc, rfl, fun _ => by kernel_rfl⟩
theorem sc134 : Sc Try.prog 134 := ⟨fun _ => by kernel_rfl, fun _ => by kernel_rfl⟩
theorem ze134 : Ze Try.prog 134 [.nilFunc] := ⟨.nilFunc, rfl, fun _ => by kernel_rfl⟩
theorem sc135 : Sc Try.prog 135 := ⟨fun _ => by kernel_rfl, fun _ => by kernel_rfl⟩
theorem ze135 : Ze Try.prog 135 [.nilFunc] := ⟨.nilFunc, rfl, fun _ => by kernel_rfl⟩
theorem sc136 : Sc Try.prog 136 := ⟨fun _ => by kernel_rfl, fun _ => by kernel_rfl⟩
theorem ze136 : Ze Try.prog 136 [.nilFunc] := ⟨.nilFunc, rfl, fun _ => by kernel_rfl⟩
theorem sc137 : Sc Try.prog 137 := ⟨fun _ => by kernel_rfl, fun _ => by kernel_rfl⟩
theorem ze137 : Ze Try.prog 137 [.int .i64 0] := ⟨.int .i64 0, rfl, fun _ => by kernel_rfl⟩
theorem sc138 : Sc Try.prog 138 := ⟨fun _ => by kernel_rfl, fun _ => by kernel_rfl⟩
theorem sc139 : Sc Try.prog 139 := ⟨fun _ => by kernel_rfl, fun _ => by kernel_rfl⟩
theorem ze139 : Ze Try.prog 139 [.nilFunc] := ⟨.nilFunc, rfl, fun _ => by kernel_rfl⟩
theorem sc140 : Sc Try.prog 140 := ⟨fun _ => by kernel_rfl, fun _ => by kernel_rfl⟩
theorem ze140 : Ze Try.prog 140 [.nilFunc] := ⟨.nilFunc, rfl, fun _ => by kernel_rfl⟩
theorem sc141 : Sc Try.prog 141 := ⟨fun _ => by kernel_rfl, fun _ => by kernel_rfl⟩
theorem ze141 : Ze Try.prog 141 [.nilFunc] := ⟨.nilFunc, rfl, fun _ => by kernel_rfl⟩
theorem sc142 : Sc Try.prog 142 := ⟨fun _ => by kernel_rfl, fun _ => by kernel_rfl⟩
theorem ze142 : Ze Try.prog 142 [.nilFunc] := ⟨.nilFunc, rfl, fun _ => by kernel_rfl⟩
theorem sc143 : Sc Try.prog 143 := ⟨fun _ => by kernel_rfl, fun _ => by kernel_rfl⟩
theorem ze143 : Ze Try.prog 143 [.nilFunc] := ⟨.nilFunc, rfl, fun _ => by kernel_rfl⟩
theorem sc144 : Sc Try.prog 144 := ⟨fun _ => by kernel_rfl, fun _ => by kernel_rfl⟩
theorem ze144 : Ze Try.prog 144 [.nilFunc] := ⟨.nilFunc, rfl, fun _ => by kernel_rfl⟩
theorem sc145 : Sc Try.prog 145 := ⟨fun _ => by kernel_rfl, fun _ => by kernel_rfl⟩
theorem ze145 : Ze Try.prog 145 [.int .u32 0] := ⟨.int .u32 0, rfl, fun _ => by kernel_rfl⟩
theorem sc146 : Sc Try.prog 146 := ⟨fun _ => by kernel_rfl, fun _ => by kernel_rfl⟩
theorem ze146 : Ze Try.prog 146 [.nilFunc] := ⟨.nilFunc, rfl, fun _ => by kernel_rfl⟩
theorem sc147 : Sc Try.prog 147 := ⟨fun _ => by kernel_rfl, fun _ => by kernel_rfl⟩
theorem ze147 : Ze Try.prog 147 [.nilFunc] := ⟨.nilFunc, rfl, fun _ => by kernel_rfl⟩
theorem sc148 : Sc Try.prog 148 := ⟨fun _ => by kernel_rfl, fun _ => by kernel_rfl⟩
theorem ze148 : Ze Try.prog 148 [.nilFunc] := ⟨.nilFunc, rfl, fun _ => by kernel_rfl⟩
theorem sc149 : Sc Try.prog 149 := ⟨fun _ => by kernel_rfl, fun _ => by kernel_rfl⟩
theorem ze149 : Ze Try.prog 149 [.int .u64 0] := ⟨.int .u64 0, rfl, fun _ => by kernel_rfl⟩
theorem sc150 : Sc Try.prog 150 := ⟨fun _ => by kernel_rfl, fun _ => by kernel_rfl⟩
theorem ze150 : Ze Try.prog 150 [.nilFunc] := ⟨.nilFunc, rfl, fun _ => by kernel_rfl⟩
theorem sc151 : Sc Try.prog 151 := ⟨fun _ => by kernel_rfl, fun _ => by kernel_rfl⟩
theorem ze151 : Ze Try.prog 151 [.nilFunc] := ⟨.nilFunc, rfl, fun _ => by kernel_rfl⟩
theorem sc152 : Sc Try.prog 152 := ⟨fun _ => by kernel_rfl, fun _ => by kernel_rfl⟩
theorem ze152 : Ze Try.prog 152 [.pointer none] := ⟨.pointer none, rfl, fun _ => by kernel_rfl⟩
theorem sc153 : Sc Try.prog 153 := ⟨fun _ => by kernel_rfl, fun _ => by kernel_rfl⟩
theorem ze153 : Ze Try.prog 153 [.nilFunc] := ⟨.nilFunc, rfl, fun _ => by kernel_rfl⟩
theorem sc154 : Sc Try.prog 154 := ⟨fun _ => by kernel_rfl, fun _ => by kernel_rfl⟩
theorem sc155 : Sc Try.prog 155 := ⟨fun _ => by kernel_rfl, fun _ => by kernel_rfl⟩
theorem ze155 : Ze Try.prog 155 [.nilFunc] := ⟨.nilFunc, rfl, fun _ => by kernel_rfl⟩
theorem sc156 : Sc Try.prog 156 := ⟨fun _ => by kernel_rfl, fun _ => by kernel_rfl⟩
theorem ze156 : Ze Try.prog 156 [.nilFunc] := ⟨.nilFunc, rfl, fun _ => by kernel_rfl⟩
theorem sc157 : Sc Try.prog 157 := ⟨fun _ => by kernel_rfl, fun _ => by kernel_rfl⟩
theorem ze157 : Ze Try.prog 157 [.pointer none] := ⟨.pointer none, rfl, fun _ => by kernel_rfl⟩
theorem sc158 : Sc Try.prog 158 := ⟨fun _ => by kernel_rfl, fun _ => by kernel_rfl⟩
theorem sc159 : Sc Try.prog 159 := ⟨fun _ => by kernel_rfl, fun _ => by kernel_rfl⟩
theorem ze159 : Ze Try.prog 159 [.nilFunc] := ⟨.nilFunc, rfl, fun _ => by kernel_rfl⟩
theorem sc160 : Sc Try.prog 160 := ⟨fun _ => by kernel_rfl, fun _ => by kernel_rfl⟩
theorem ze160 : Ze Try.prog 160 [.nilFunc] := ⟨.nilFunc, rfl, fun _ => by kernel_rfl⟩
theorem sc161 : Sc Try.prog 161 := ⟨fun _ => by kernel_rfl, fun _ => by kernel_rfl⟩
theorem ze161 : Ze Try.prog 161 [.nilFunc] := ⟨.nilFunc, rfl, fun _ => by kernel_rfl⟩
theorem ag162 : Ag Try.prog 162 4 := ⟨fun _ => by kernel_rfl, fun _ => by kernel_rfl⟩
theorem fa162_0 : Fa Try.prog 162 0 0 := fun _ _ _ => by kernel_rfl
theorem fa162_1 : Fa Try.prog 162 1 1 := fun _ _ _ => by kernel_rfl
theorem fa162_2 : Fa Try.prog 162 2 2 := fun _ _ _ => by kernel_rfl
theorem fa162_3 : Fa Try.prog 162 3 3 := fun _ _ _ => by kernel_rfl
theorem ze162 : Ze Try.prog 162 [.pointer none, .pointer none, .pointer none, .string ⟨#[]⟩] := ⟨.agg #[.pointer none, .pointer none, .pointer none, .string ⟨#[]⟩], rfl, fun _ => by kernel_rfl⟩
theorem ag163 : Ag Try.prog 163 4 := ⟨fun _ => by kernel_rfl, fun _ => by kernel_rfl⟩
theorem fa163_0 : Fa Try.prog 163 0 0 := fun _ _ _ => by kernel_rfl
theorem fa163_1 : Fa Try.prog 163 1 1 := fun _ _ _ => by kernel_rfl
theorem fa163_2 : Fa Try.prog 163 2 2 := fun _ _ _ => by kernel_rfl
theorem fa163_3 : Fa Try.prog 163 3 3 := fun _ _ _ => by kernel_rfl
theorem ze163 : Ze Try.prog 163 [.pointer none, .pointer none, .pointer none, .string ⟨#[]⟩] := ⟨.agg #[.pointer none, .pointer none, .pointer none, .string ⟨#[]⟩], rfl, fun _ => by kernel_rfl⟩
theorem ag164 : Ag Try.prog 164 0 := ⟨fun _ => by kernel_rfl, fun _ => by kernel_rfl⟩
theorem ze164 : Ze Try.prog 164 [] := ⟨.agg #[], rfl, fun _ => by kernel_rfl⟩
theorem ag165 : Ag Try.prog 165 0 := ⟨fun _ => by kernel_rfl, fun _ => by kernel_rfl⟩
theorem ze165 : Ze Try.prog 165 [] := ⟨.agg #[], rfl, fun _ => by kernel_rfl⟩
theorem ag166 : Ag Try.prog 166 0 := ⟨fun _ => by kernel_rfl, fun _ => by kernel_rfl⟩
theorem ze166 : Ze Try.prog 166 [] := ⟨.agg #[], rfl, fun _ => by kernel_rfl⟩
theorem sc167 : Sc Try.prog 167 := ⟨fun _ => by kernel_rfl, fun _ => by kernel_rfl⟩
theorem ze167 : Ze Try.prog 167 [.int .u8 0] := ⟨.int .u8 0, rfl, fun _ => by kernel_rfl⟩
theorem sc168 : Sc Try.prog 168 := ⟨fun _ => by kernel_rfl, fun _ => by kernel_rfl⟩
theorem ze168 : Ze Try.prog 168 [.int .u8 0] := ⟨.int .u8 0, rfl, fun _ => by kernel_rfl⟩
theorem sc169 : Sc Try.prog 169 := ⟨fun _ => by kernel_rfl, fun _ => by kernel_rfl⟩
theorem ze169 : Ze Try.prog 169 [.nilFunc] := ⟨.nilFunc, rfl, fun _ => by kernel_rfl⟩
theorem sc170 : Sc Try.prog 170 := ⟨fun _ => by kernel_rfl, fun _ => by kernel_rfl⟩
theorem ze170 : Ze Try.prog 170 [.pointer none] := ⟨.pointer none, rfl, fun _ => by kernel_rfl⟩
theorem sc171 : Sc Try.prog 171 := ⟨fun _ => by kernel_rfl, fun _ => by kernel_rfl⟩
theorem ze171 : Ze Try.prog 171 [.int .i32 0] := ⟨.int .i32 0, rfl, fun _ => by kernel_rfl⟩
theorem sc172 : Sc Try.prog 172 := ⟨fun _ => by kernel_rfl, fun _ => by kernel_rfl⟩
theorem ze172 : Ze Try.prog 172 [.int .i32 0] := ⟨.int .i32 0, rfl, fun _ => by kernel_rfl⟩
theorem ag173 : Ag Try.prog 173 11 := ⟨fun _ => by kernel_rfl, fun _ => by kernel_rfl⟩
theorem fa173_0 : Fa Try.prog 173 0 0 := fun _ _ _ => by kernel_rfl
theorem fa173_1 : Fa Try.prog 173 1 1 := fun _ _ _ => by kernel_rfl
theorem fa173_2 : Fa Try.prog 173 2 2 := fun _ _ _ => by kernel_rfl
theorem fa173_3 : Fa Try.prog 173 3 3 := fun _ _ _ => by kernel_rfl
theorem fa173_4 : Fa Try.prog 173 4 4 := fun _ _ _ => by kernel_rfl
theorem fa173_5 : Fa Try.prog 173 5 5 := fun _ _ _ => by kernel_rfl
theorem fa173_6 : Fa Try.prog 173 6 6 := fun _ _ _ => by kernel_rfl
theorem fa173_7 : Fa Try.prog 173 7 7 := fun _ _ _ => by kernel_rfl
theorem fa173_8 : Fa Try.prog 173 8 8 := fun _ _ _ => by kernel_rfl
theorem fa173_9 : Fa Try.prog 173 9 9 := fun _ _ _ => by kernel_rfl
theorem fa173_10 : Fa Try.prog 173 10 10 := fun _ _ _ => by kernel_rfl
theorem ze173 : Ze Try.prog 173 [.int .u64 0, .int .u64 0, .int .u32 0, .int .u8 0, .int .u8 0, .int .u8 0, .int .u8 0, .nilFunc, .pointer none, .int .i32 0, .int .i32 0] := ⟨.agg #[.int .u64 0, .int .u64 0, .int .u32 0, .int .u8 0, .int .u8 0, .int .u8 0, .int .u8 0, .nilFunc, .pointer none, .int .i32 0, .int .i32 0], rfl, fun _ => by kernel_rfl⟩
theorem ag174 : Ag Try.prog 174 11 := ⟨fun _ => by kernel_rfl, fun _ => by kernel_rfl⟩
theorem fa174_0 : Fa Try.prog 174 0 0 := fun _ _ _ => by kernel_rfl
theorem fa174_1 : Fa Try.prog 174 1 1 := fun _ _ _ => by kernel_rfl
theorem fa174_2 : Fa Try.prog 174 2 2 := fun _ _ _ => by kernel_rfl
theorem fa174_3 : Fa Try.prog 174 3 3 := fun _ _ _ => by kernel_rfl
theorem fa174_4 : Fa Try.prog 174 4 4 := fun _ _ _ => by kernel_rfl
theorem fa174_5 : Fa Try.prog 174 5 5 := fun _ _ _ => by kernel_rfl
theorem fa174_6 : Fa Try.prog 174 6 6 := fun _ _ _ => by kernel_rfl
theorem fa174_7 : Fa Try.prog 174 7 7 := fun _ _ _ => by kernel_rfl
theorem fa174_8 : Fa Try.prog 174 8 8 := fun _ _ _ => by kernel_rfl
theorem fa174_9 : Fa Try.prog 174 9 9 := fun _ _ _ => by kernel_rfl
theorem fa174_10 : Fa Try.prog 174 10 10 := fun _ _ _ => by kernel_rfl
theorem ze174 : Ze Try.prog 174 [.int .u64 0, .int .u64 0, .int .u32 0, .int .u8 0, .int .u8 0, .int .u8 0, .int .u8 0, .nilFunc, .pointer none, .int .i32 0, .int .i32 0] := ⟨.agg #[.int .u64 0, .int .u64 0, .int .u32 0, .int .u8 0, .int .u8 0, .int .u8 0, .int .u8 0, .nilFunc, .pointer none, .int .i32 0, .int .i32 0], rfl, fun _ => by kernel_rfl⟩
theorem sc175 : Sc Try.prog 175 := ⟨fun _ => by kernel_rfl, fun _ => by kernel_rfl⟩
theorem ze175 : Ze Try.prog 175 [.pointer none] := ⟨.pointer none, rfl, fun _ => by kernel_rfl⟩
theorem ca3 : Ca Try.prog 3 := fun _ _ => by kernel_rfl
theorem ca4 : Ca Try.prog 4 := fun _ _ => by kernel_rfl
theorem ca5 : Ca Try.prog 5 := fun _ _ => by kernel_rfl
theorem ca6 : Ca Try.prog 6 := fun _ _ => by kernel_rfl
theorem ca7 : Ca Try.prog 7 := fun _ _ => by kernel_rfl
theorem ca8 : Ca Try.prog 8 := fun _ _ => by kernel_rfl
theorem ca9 : Ca Try.prog 9 := fun _ _ => by kernel_rfl
theorem ca10 : Ca Try.prog 10 := fun _ _ => by kernel_rfl
theorem ca11 : Ca Try.prog 11 := fun _ _ => by kernel_rfl
theorem ca12 : Ca Try.prog 12 := fun _ _ => by kernel_rfl
theorem ca13 : Ca Try.prog 13 := fun _ _ => by kernel_rfl
theorem ca14 : Ca Try.prog 14 := fun _ _ => by kernel_rfl
theorem ca15 : Ca Try.prog 15 := fun _ _ => by kernel_rfl
theorem ca16 : Ca Try.prog 16 := fun _ _ => by kernel_rfl
theorem ca17 : Ca Try.prog 17 := fun _ _ => by kernel_rfl
theorem ca18 : Ca Try.prog 18 := fun _ _ => by kernel_rfl
theorem ca19 : Ca Try.prog 19 := fun _ _ => by kernel_rfl
theorem ca20 : Ca Try.prog 20 := fun _ _ => by kernel_rfl
theorem ca21 : Ca Try.prog 21 := fun _ _ => by kernel_rfl
theorem ca22 : Ca Try.prog 22 := fun _ _ => by kernel_rfl
theorem ca23 : Ca Try.prog 23 := fun _ _ => by kernel_rfl
theorem ca24 : Ca Try.prog 24 := fun _ _ => by kernel_rfl
theorem ca25 : Ca Try.prog 25 := fun _ _ => by kernel_rfl
theorem ca26 : Ca Try.prog 26 := fun _ _ => by kernel_rfl
theorem ca27 : Ca Try.prog 27 := fun _ _ => by kernel_rfl
theorem ca28 : Ca Try.prog 28 := fun _ _ => by kernel_rfl
theorem ca29 : Ca Try.prog 29 := fun _ _ => by kernel_rfl
theorem ca30 : Ca Try.prog 30 := fun _ _ => by kernel_rfl
theorem ca31 : Ca Try.prog 31 := fun _ _ => by kernel_rfl
theorem ca32 : Ca Try.prog 32 := fun _ _ => by kernel_rfl
theorem ca33 : Ca Try.prog 33 := fun _ _ => by kernel_rfl
theorem ca34 : Ca Try.prog 34 := fun _ _ => by kernel_rfl
theorem ca35 : Ca Try.prog 35 := fun _ _ => by kernel_rfl
theorem ca36 : Ca Try.prog 36 := fun _ _ => by kernel_rfl
theorem ca37 : Ca Try.prog 37 := fun _ _ => by kernel_rfl
theorem ca38 : Ca Try.prog 38 := fun _ _ => by kernel_rfl
theorem ca39 : Ca Try.prog 39 := fun _ _ => by kernel_rfl
theorem ca40 : Ca Try.prog 40 := fun _ _ => by kernel_rfl
theorem ca41 : Ca Try.prog 41 := fun _ _ => by kernel_rfl
theorem ca42 : Ca Try.prog 42 := fun _ _ => by kernel_rfl
theorem ca43 : Ca Try.prog 43 := fun _ _ => by kernel_rfl
theorem ca44 : Ca Try.prog 44 := fun _ _ => by kernel_rfl
theorem ca45 : Ca Try.prog 45 := fun _ _ => by kernel_rfl
theorem ca46 : Ca Try.prog 46 := fun _ _ => by kernel_rfl
theorem ca47 : Ca Try.prog 47 := fun _ _ => by kernel_rfl
theorem ca48 : Ca Try.prog 48 := fun _ _ => by kernel_rfl
theorem ca49 : Ca Try.prog 49 := fun _ _ => by kernel_rfl
theorem ca50 : Ca Try.prog 50 := fun _ _ => by kernel_rfl
theorem ca51 : Ca Try.prog 51 := fun _ _ => by kernel_rfl
theorem ca52 : Ca Try.prog 52 := fun _ _ => by kernel_rfl
theorem ca53 : Ca Try.prog 53 := fun _ _ => by kernel_rfl
theorem ca54 : Ca Try.prog 54 := fun _ _ => by kernel_rfl
theorem ca55 : Ca Try.prog 55 := fun _ _ => by kernel_rfl
theorem ca56 : Ca Try.prog 56 := fun _ _ => by kernel_rfl
theorem ca57 : Ca Try.prog 57 := fun _ _ => by kernel_rfl
theorem ca58 : Ca Try.prog 58 := fun _ _ => by kernel_rfl
theorem ca59 : Ca Try.prog 59 := fun _ _ => by kernel_rfl
theorem ca60 : Ca Try.prog 60 := fun _ _ => by kernel_rfl
theorem ca61 : Ca Try.prog 61 := fun _ _ => by kernel_rfl
theorem ca62 : Ca Try.prog 62 := fun _ _ => by kernel_rfl
theorem ca63 : Ca Try.prog 63 := fun _ _ => by kernel_rfl
theorem ca64 : Ca Try.prog 64 := fun _ _ => by kernel_rfl
theorem ca65 : Ca Try.prog 65 := fun _ _ => by kernel_rfl
theorem ca66 : Ca Try.prog 66 := fun _ _ => by kernel_rfl
theorem ca67 : Ca Try.prog 67 := fun _ _ => by kernel_rfl
theorem ca68 : Ca Try.prog 68 := fun _ _ => by kernel_rfl
theorem ca69 : Ca Try.prog 69 := fun _ _ => by kernel_rfl
theorem ca70 : Ca Try.prog 70 := fun _ _ => by kernel_rfl
theorem ca71 : Ca Try.prog 71 := fun _ _ => by kernel_rfl
theorem ca72 : Ca Try.prog 72 := fun _ _ => by kernel_rfl
theorem ca73 : Ca Try.prog 73 := fun _ _ => by kernel_rfl
theorem ca74 : Ca Try.prog 74 := fun _ _ => by kernel_rfl
theorem ca75 : Ca Try.prog 75 := fun _ _ => by kernel_rfl
theorem ca76 : Ca Try.prog 76 := fun _ _ => by kernel_rfl
theorem ca77 : Ca Try.prog 77 := fun _ _ => by kernel_rfl
theorem ca78 : Ca Try.prog 78 := fun _ _ => by kernel_rfl
theorem ca79 : Ca Try.prog 79 := fun _ _ => by kernel_rfl
theorem ca80 : Ca Try.prog 80 := fun _ _ => by kernel_rfl
theorem ca81 : Ca Try.prog 81 := fun _ _ => by kernel_rfl
theorem ca82 : Ca Try.prog 82 := fun _ _ => by kernel_rfl
theorem ca83 : Ca Try.prog 83 := fun _ _ => by kernel_rfl
theorem ca84 : Ca Try.prog 84 := fun _ _ => by kernel_rfl
theorem ca85 : Ca Try.prog 85 := fun _ _ => by kernel_rfl
theorem ca86 : Ca Try.prog 86 := fun _ _ => by kernel_rfl
theorem ca87 : Ca Try.prog 87 := fun _ _ => by kernel_rfl
theorem ca88 : Ca Try.prog 88 := fun _ _ => by kernel_rfl
theorem ca89 : Ca Try.prog 89 := fun _ _ => by kernel_rfl
theorem ca90 : Ca Try.prog 90 := fun _ _ => by kernel_rfl
theorem ca91 : Ca Try.prog 91 := fun _ _ => by kernel_rfl
theorem ca92 : Ca Try.prog 92 := fun _ _ => by kernel_rfl
theorem ca93 : Ca Try.prog 93 := fun _ _ => by kernel_rfl
theorem ca94 : Ca Try.prog 94 := fun _ _ => by kernel_rfl
theorem ca95 : Ca Try.prog 95 := fun _ _ => by kernel_rfl
theorem ca96 : Ca Try.prog 96 := fun _ _ => by kernel_rfl
theorem ca97 : Ca Try.prog 97 := fun _ _ => by kernel_rfl
theorem ca98 : Ca Try.prog 98 := fun _ _ => by kernel_rfl
theorem ca99 : Ca Try.prog 99 := fun _ _ => by kernel_rfl
theorem ca100 : Ca Try.prog 100 := fun _ _ => by kernel_rfl
theorem mixed : Try.prog.follows .mixedOrders = true := by kernel_rfl
end Go.Proofs.Ytpanhdnglicknaa
