/-
  Facts on the types and functions of this seat's program, by a program of this session's.
-/
import Derived.Test.YthngfieikhillaaProg
import Derived.Test.YthngfieikhillaaHwC
import Derived.KernelRfl
set_option linter.unusedSimpArgs false
namespace Go.Proofs.Ythngfieikhillaa
open Go Go.Proofs.Ythngfieikhillaa.Hw
theorem sc0 : Sc Try.prog 0 := ⟨fun _ => by kernel_rfl, fun _ => by kernel_rfl⟩
theorem sc1 : Sc Try.prog 1 := ⟨fun _ => by kernel_rfl, fun _ => by kernel_rfl⟩
theorem ze1 : Ze Try.prog 1 [.nilFunc] := ⟨.nilFunc, rfl, fun _ => by kernel_rfl⟩
theorem sc2 : Sc Try.prog 2 := ⟨fun _ => by kernel_rfl, fun _ => by kernel_rfl⟩
theorem ze2 : Ze Try.prog 2 [.int .i64 0] := ⟨.int .i64 0, rfl, fun _ => by kernel_rfl⟩
theorem sc3 : Sc Try.prog 3 := ⟨fun _ => by kernel_rfl, fun _ => by kernel_rfl⟩
theorem ze3 : Ze Try.prog 3 [.int .i64 0] := ⟨.int .i64 0, rfl, fun _ => by kernel_rfl⟩
theorem sc4 : Sc Try.prog 4 := ⟨fun _ => by kernel_rfl, fun _ => by kernel_rfl⟩
theorem ze4 : Ze Try.prog 4 [.bool false] := ⟨.bool false, rfl, fun _ => by kernel_rfl⟩
theorem sc5 : Sc Try.prog 5 := ⟨fun _ => by kernel_rfl, fun _ => by kernel_rfl⟩
theorem ze5 : Ze Try.prog 5 [.int .u8 0] := ⟨.int .u8 0, rfl, fun _ => by kernel_rfl⟩
theorem sc6 : Sc Try.prog 6 := ⟨fun _ => by kernel_rfl, fun _ => by kernel_rfl⟩
theorem ze6 : Ze Try.prog 6 [.int .u8 0] := ⟨.int .u8 0, rfl, fun _ => by kernel_rfl⟩
theorem ag7 : Ag Try.prog 7 4 := ⟨fun _ => by kernel_rfl, fun _ => by kernel_rfl⟩
theorem fa7_0 : Fa Try.prog 7 0 0 := fun _ _ _ => by kernel_rfl
theorem fa7_1 : Fa Try.prog 7 1 1 := fun _ _ _ => by kernel_rfl
theorem fa7_2 : Fa Try.prog 7 2 2 := fun _ _ _ => by kernel_rfl
theorem fa7_3 : Fa Try.prog 7 3 3 := fun _ _ _ => by kernel_rfl
theorem ze7 : Ze Try.prog 7 [.int .i64 0, .int .i64 0, .bool false, .int .u8 0] := ⟨.agg #[.int .i64 0, .int .i64 0, .bool false, .int .u8 0], rfl, fun _ => by kernel_rfl⟩
theorem ag8 : Ag Try.prog 8 4 := ⟨fun _ => by kernel_rfl, fun _ => by kernel_rfl⟩
theorem fa8_0 : Fa Try.prog 8 0 0 := fun _ _ _ => by kernel_rfl
theorem fa8_1 : Fa Try.prog 8 1 1 := fun _ _ _ => by kernel_rfl
theorem fa8_2 : Fa Try.prog 8 2 2 := fun _ _ _ => by kernel_rfl
theorem fa8_3 : Fa Try.prog 8 3 3 := fun _ _ _ => by kernel_rfl
theorem ze8 : Ze Try.prog 8 [.int .i64 0, .int .i64 0, .bool false, .int .u8 0] := ⟨.agg #[.int .i64 0, .int .i64 0, .bool false, .int .u8 0], rfl, fun _ => by kernel_rfl⟩
theorem sc9 : Sc Try.prog 9 := ⟨fun _ => by kernel_rfl, fun _ => by kernel_rfl⟩
theorem ze9 : Ze Try.prog 9 [.string ⟨#[]⟩] := ⟨.string ⟨#[]⟩, rfl, fun _ => by kernel_rfl⟩
theorem sc10 : Sc Try.prog 10 := ⟨fun _ => by kernel_rfl, fun _ => by kernel_rfl⟩
theorem ze10 : Ze Try.prog 10 [.string ⟨#[]⟩] := ⟨.string ⟨#[]⟩, rfl, fun _ => by kernel_rfl⟩
theorem sc11 : Sc Try.prog 11 := ⟨fun _ => by kernel_rfl, fun _ => by kernel_rfl⟩
theorem ze11 : Ze Try.prog 11 [.string ⟨#[]⟩] := ⟨.string ⟨#[]⟩, rfl, fun _ => by kernel_rfl⟩
theorem sc12 : Sc Try.prog 12 := ⟨fun _ => by kernel_rfl, fun _ => by kernel_rfl⟩
theorem ze12 : Ze Try.prog 12 [.int .u64 0] := ⟨.int .u64 0, rfl, fun _ => by kernel_rfl⟩
theorem ag13 : Ag Try.prog 13 2 := ⟨fun _ => by kernel_rfl, fun _ => by kernel_rfl⟩
theorem fa13_0 : Fa Try.prog 13 0 0 := fun _ _ _ => by kernel_rfl
theorem fa13_1 : Fa Try.prog 13 1 1 := fun _ _ _ => by kernel_rfl
theorem ze13 : Ze Try.prog 13 [.string ⟨#[]⟩, .int .u64 0] := ⟨.agg #[.string ⟨#[]⟩, .int .u64 0], rfl, fun _ => by kernel_rfl⟩
theorem ag14 : Ag Try.prog 14 2 := ⟨fun _ => by kernel_rfl, fun _ => by kernel_rfl⟩
theorem fa14_0 : Fa Try.prog 14 0 0 := fun _ _ _ => by kernel_rfl
theorem fa14_1 : Fa Try.prog 14 1 1 := fun _ _ _ => by kernel_rfl
theorem ze14 : Ze Try.prog 14 [.string ⟨#[]⟩, .int .u64 0] := ⟨.agg #[.string ⟨#[]⟩, .int .u64 0], rfl, fun _ => by kernel_rfl⟩
theorem sc15 : Sc Try.prog 15 := ⟨fun _ => by kernel_rfl, fun _ => by kernel_rfl⟩
theorem ze15 : Ze Try.prog 15 [.pointer none] := ⟨.pointer none, rfl, fun _ => by kernel_rfl⟩
theorem sc16 : Sc Try.prog 16 := ⟨fun _ => by kernel_rfl, fun _ => by kernel_rfl⟩
theorem ze16 : Ze Try.prog 16 [.pointer none] := ⟨.pointer none, rfl, fun _ => by kernel_rfl⟩
theorem sc17 : Sc Try.prog 17 := ⟨fun _ => by kernel_rfl, fun _ => by kernel_rfl⟩
theorem ze17 : Ze Try.prog 17 [.pointer none] := ⟨.pointer none, rfl, fun _ => by kernel_rfl⟩
theorem ag18 : Ag Try.prog 18 1 := ⟨fun _ => by kernel_rfl, fun _ => by kernel_rfl⟩
theorem fa18_0 : Fa Try.prog 18 0 0 := fun _ _ _ => by kernel_rfl
theorem ze18 : Ze Try.prog 18 [.pointer none] := ⟨.agg #[.pointer none], rfl, fun _ => by kernel_rfl⟩
theorem ag19 : Ag Try.prog 19 1 := ⟨fun _ => by kernel_rfl, fun _ => by kernel_rfl⟩
theorem fa19_0 : Fa Try.prog 19 0 0 := fun _ _ _ => by kernel_rfl
theorem ze19 : Ze Try.prog 19 [.pointer none] := ⟨.agg #[.pointer none], rfl, fun _ => by kernel_rfl⟩
theorem sc20 : Sc Try.prog 20 := ⟨fun _ => by kernel_rfl, fun _ => by kernel_rfl⟩
theorem ze20 : Ze Try.prog 20 [.nilIface] := ⟨.nilIface, rfl, fun _ => by kernel_rfl⟩
theorem sc21 : Sc Try.prog 21 := ⟨fun _ => by kernel_rfl, fun _ => by kernel_rfl⟩
theorem ze21 : Ze Try.prog 21 [.int .i32 0] := ⟨.int .i32 0, rfl, fun _ => by kernel_rfl⟩
theorem sc22 : Sc Try.prog 22 := ⟨fun _ => by kernel_rfl, fun _ => by kernel_rfl⟩
theorem ze22 : Ze Try.prog 22 [.int .u64 0] := ⟨.int .u64 0, rfl, fun _ => by kernel_rfl⟩
theorem ag23 : Ag Try.prog 23 6 := ⟨fun _ => by kernel_rfl, fun _ => by kernel_rfl⟩
theorem fa23_0 : Fa Try.prog 23 0 0 := fun _ _ _ => by kernel_rfl
theorem fa23_1 : Fa Try.prog 23 1 1 := fun _ _ _ => by kernel_rfl
theorem fa23_2 : Fa Try.prog 23 2 2 := fun _ _ _ => by kernel_rfl
theorem fa23_3 : Fa Try.prog 23 3 3 := fun _ _ _ => by kernel_rfl
theorem fa23_4 : Fa Try.prog 23 4 4 := fun _ _ _ => by kernel_rfl
theorem fa23_5 : Fa Try.prog 23 5 5 := fun _ _ _ => by kernel_rfl
theorem ze23 : Ze Try.prog 23 [.int .u64 0, .int .i64 0, .int .u64 0, .int .i64 0, .int .u64 0, .int .u64 0] := ⟨.agg #[.int .u64 0, .int .i64 0, .int .u64 0, .int .i64 0, .int .u64 0, .int .u64 0], rfl, fun _ => by kernel_rfl⟩
theorem ag24 : Ag Try.prog 24 6 := ⟨fun _ => by kernel_rfl, fun _ => by kernel_rfl⟩
theorem fa24_0 : Fa Try.prog 24 0 0 := fun _ _ _ => by kernel_rfl
theorem fa24_1 : Fa Try.prog 24 1 1 := fun _ _ _ => by kernel_rfl
theorem fa24_2 : Fa Try.prog 24 2 2 := fun _ _ _ => by kernel_rfl
theorem fa24_3 : Fa Try.prog 24 3 3 := fun _ _ _ => by kernel_rfl
theorem fa24_4 : Fa Try.prog 24 4 4 := fun _ _ _ => by kernel_rfl
theorem fa24_5 : Fa Try.prog 24 5 5 := fun _ _ _ => by kernel_rfl
theorem ze24 : Ze Try.prog 24 [.int .u64 0, .int .i64 0, .int .u64 0, .int .i64 0, .int .u64 0, .int .u64 0] := ⟨.agg #[.int .u64 0, .int .i64 0, .int .u64 0, .int .i64 0, .int .u64 0, .int .u64 0], rfl, fun _ => by kernel_rfl⟩
theorem ag25 : Ag Try.prog 25 16 := ⟨fun _ => by kernel_rfl, fun _ => by kernel_rfl⟩
theorem fa25_0 : Fa Try.prog 25 0 0 := fun _ _ _ => by kernel_rfl
theorem fa25_1 : Fa Try.prog 25 1 1 := fun _ _ _ => by kernel_rfl
theorem fa25_2 : Fa Try.prog 25 2 2 := fun _ _ _ => by kernel_rfl
theorem fa25_3 : Fa Try.prog 25 3 3 := fun _ _ _ => by kernel_rfl
theorem fa25_4 : Fa Try.prog 25 4 4 := fun _ _ _ => by kernel_rfl
theorem fa25_5 : Fa Try.prog 25 5 10 := fun _ _ _ => by kernel_rfl
theorem ze25 : Ze Try.prog 25 [.bool false, .int .u64 0, .int .u64 0, .int .u64 0, .int .u64 0, .int .i64 0, .int .u64 0, .int .i64 0, .int .u64 0, .int .u64 0, .int .u64 0, .int .i64 0, .int .u64 0, .int .i64 0, .int .u64 0, .int .u64 0] := ⟨.agg #[.bool false, .int .u64 0, .int .u64 0, .int .u64 0, .int .u64 0, .int .i64 0, .int .u64 0, .int .i64 0, .int .u64 0, .int .u64 0, .int .u64 0, .int .i64 0, .int .u64 0, .int .i64 0, .int .u64 0, .int .u64 0], rfl, fun _ => by kernel_rfl⟩
theorem ag26 : Ag Try.prog 26 16 := ⟨fun _ => by kernel_rfl, fun _ => by kernel_rfl⟩
theorem fa26_0 : Fa Try.prog 26 0 0 := fun _ _ _ => by kernel_rfl
theorem fa26_1 : Fa Try.prog 26 1 1 := fun _ _ _ => by kernel_rfl
theorem fa26_2 : Fa Try.prog 26 2 2 := fun _ _ _ => by kernel_rfl
theorem fa26_3 : Fa Try.prog 26 3 3 := fun _ _ _ => by kernel_rfl
theorem fa26_4 : Fa Try.prog 26 4 4 := fun _ _ _ => by kernel_rfl
theorem fa26_5 : Fa Try.prog 26 5 10 := fun _ _ _ => by kernel_rfl
theorem ze26 : Ze Try.prog 26 [.bool false, .int .u64 0, .int .u64 0, .int .u64 0, .int .u64 0, .int .i64 0, .int .u64 0, .int .i64 0, .int .u64 0, .int .u64 0, .int .u64 0, .int .i64 0, .int .u64 0, .int .i64 0, .int .u64 0, .int .u64 0] := ⟨.agg #[.bool false, .int .u64 0, .int .u64 0, .int .u64 0, .int .u64 0, .int .i64 0, .int .u64 0, .int .i64 0, .int .u64 0, .int .u64 0, .int .u64 0, .int .i64 0, .int .u64 0, .int .i64 0, .int .u64 0, .int .u64 0], rfl, fun _ => by kernel_rfl⟩
theorem sc27 : Sc Try.prog 27 := ⟨fun _ => by kernel_rfl, fun _ => by kernel_rfl⟩
theorem ze27 : Ze Try.prog 27 [.slice none 0 0] := ⟨.slice none 0 0, rfl, fun _ => by kernel_rfl⟩
theorem ag28 : Ag Try.prog 28 5 := ⟨fun _ => by kernel_rfl, fun _ => by kernel_rfl⟩
theorem fa28_0 : Fa Try.prog 28 0 0 := fun _ _ _ => by kernel_rfl
theorem fa28_1 : Fa Try.prog 28 1 1 := fun _ _ _ => by kernel_rfl
theorem fa28_2 : Fa Try.prog 28 2 2 := fun _ _ _ => by kernel_rfl
theorem fa28_3 : Fa Try.prog 28 3 3 := fun _ _ _ => by kernel_rfl
theorem fa28_4 : Fa Try.prog 28 4 4 := fun _ _ _ => by kernel_rfl
theorem ze28 : Ze Try.prog 28 [.int .i64 0, .int .i64 0, .string ⟨#[]⟩, .string ⟨#[]⟩, .string ⟨#[]⟩] := ⟨.agg #[.int .i64 0, .int .i64 0, .string ⟨#[]⟩, .string ⟨#[]⟩, .string ⟨#[]⟩], rfl, fun _ => by kernel_rfl⟩
theorem ag29 : Ag Try.prog 29 5 := ⟨fun _ => by kernel_rfl, fun _ => by kernel_rfl⟩
theorem fa29_0 : Fa Try.prog 29 0 0 := fun _ _ _ => by kernel_rfl
theorem fa29_1 : Fa Try.prog 29 1 1 := fun _ _ _ => by kernel_rfl
theorem fa29_2 : Fa Try.prog 29 2 2 := fun _ _ _ => by kernel_rfl
theorem fa29_3 : Fa Try.prog 29 3 3 := fun _ _ _ => by kernel_rfl
theorem fa29_4 : Fa Try.prog 29 4 4 := fun _ _ _ => by kernel_rfl
theorem ze29 : Ze Try.prog 29 [.int .i64 0, .int .i64 0, .string ⟨#[]⟩, .string ⟨#[]⟩, .string ⟨#[]⟩] := ⟨.agg #[.int .i64 0, .int .i64 0, .string ⟨#[]⟩, .string ⟨#[]⟩, .string ⟨#[]⟩], rfl, fun _ => by kernel_rfl⟩
theorem sc30 : Sc Try.prog 30 := ⟨fun _ => by kernel_rfl, fun _ => by kernel_rfl⟩
theorem ze30 : Ze Try.prog 30 [.slice none 0 0] := ⟨.slice none 0 0, rfl, fun _ => by kernel_rfl⟩
theorem ag31 : Ag Try.prog 31 5 := ⟨fun _ => by kernel_rfl, fun _ => by kernel_rfl⟩
theorem fa31_0 : Fa Try.prog 31 0 0 := fun _ _ _ => by kernel_rfl
theorem fa31_1 : Fa Try.prog 31 1 1 := fun _ _ _ => by kernel_rfl
theorem fa31_2 : Fa Try.prog 31 2 2 := fun _ _ _ => by kernel_rfl
theorem fa31_3 : Fa Try.prog 31 3 3 := fun _ _ _ => by kernel_rfl
theorem fa31_4 : Fa Try.prog 31 4 4 := fun _ _ _ => by kernel_rfl
theorem ze31 : Ze Try.prog 31 [.int .i64 0, .string ⟨#[]⟩, .string ⟨#[]⟩, .int .u64 0, .int .u64 0] := ⟨.agg #[.int .i64 0, .string ⟨#[]⟩, .string ⟨#[]⟩, .int .u64 0, .int .u64 0], rfl, fun _ => by kernel_rfl⟩
theorem ag32 : Ag Try.prog 32 5 := ⟨fun _ => by kernel_rfl, fun _ => by kernel_rfl⟩
theorem fa32_0 : Fa Try.prog 32 0 0 := fun _ _ _ => by kernel_rfl
theorem fa32_1 : Fa Try.prog 32 1 1 := fun _ _ _ => by kernel_rfl
theorem fa32_2 : Fa Try.prog 32 2 2 := fun _ _ _ => by kernel_rfl
theorem fa32_3 : Fa Try.prog 32 3 3 := fun _ _ _ => by kernel_rfl
theorem fa32_4 : Fa Try.prog 32 4 4 := fun _ _ _ => by kernel_rfl
theorem ze32 : Ze Try.prog 32 [.int .i64 0, .string ⟨#[]⟩, .string ⟨#[]⟩, .int .u64 0, .int .u64 0] := ⟨.agg #[.int .i64 0, .string ⟨#[]⟩, .string ⟨#[]⟩, .int .u64 0, .int .u64 0], rfl, fun _ => by kernel_rfl⟩
theorem sc33 : Sc Try.prog 33 := ⟨fun _ => by kernel_rfl, fun _ => by kernel_rfl⟩
theorem ze33 : Ze Try.prog 33 [.int .i64 0] := ⟨.int .i64 0, rfl, fun _ => by kernel_rfl⟩
theorem ag34 : Ag Try.prog 34 3 := ⟨fun _ => by kernel_rfl, fun _ => by kernel_rfl⟩
theorem fa34_0 : Fa Try.prog 34 0 0 := fun _ _ _ => by kernel_rfl
theorem fa34_1 : Fa Try.prog 34 1 1 := fun _ _ _ => by kernel_rfl
theorem fa34_2 : Fa Try.prog 34 2 2 := fun _ _ _ => by kernel_rfl
theorem ze34 : Ze Try.prog 34 [.int .i64 0, .string ⟨#[]⟩, .int .u64 0] := ⟨.agg #[.int .i64 0, .string ⟨#[]⟩, .int .u64 0], rfl, fun _ => by kernel_rfl⟩
theorem ag35 : Ag Try.prog 35 3 := ⟨fun _ => by kernel_rfl, fun _ => by kernel_rfl⟩
theorem fa35_0 : Fa Try.prog 35 0 0 := fun _ _ _ => by kernel_rfl
theorem fa35_1 : Fa Try.prog 35 1 1 := fun _ _ _ => by kernel_rfl
theorem fa35_2 : Fa Try.prog 35 2 2 := fun _ _ _ => by kernel_rfl
theorem ze35 : Ze Try.prog 35 [.int .i64 0, .string ⟨#[]⟩, .int .u64 0] := ⟨.agg #[.int .i64 0, .string ⟨#[]⟩, .int .u64 0], rfl, fun _ => by kernel_rfl⟩
theorem ag36 : Ag Try.prog 36 51 := ⟨fun _ => by kernel_rfl, fun _ => by kernel_rfl⟩
theorem fa36_0 : Fa Try.prog 36 0 0 := fun _ _ _ => by kernel_rfl
theorem fa36_1 : Fa Try.prog 36 1 1 := fun _ _ _ => by kernel_rfl
theorem fa36_2 : Fa Try.prog 36 2 7 := fun _ _ _ => by kernel_rfl
theorem fa36_3 : Fa Try.prog 36 3 13 := fun _ _ _ => by kernel_rfl
theorem fa36_4 : Fa Try.prog 36 4 14 := fun _ _ _ => by kernel_rfl
theorem fa36_5 : Fa Try.prog 36 5 30 := fun _ _ _ => by kernel_rfl
theorem fa36_6 : Fa Try.prog 36 6 31 := fun _ _ _ => by kernel_rfl
theorem fa36_7 : Fa Try.prog 36 7 32 := fun _ _ _ => by kernel_rfl
theorem fa36_8 : Fa Try.prog 36 8 33 := fun _ _ _ => by kernel_rfl
theorem fa36_9 : Fa Try.prog 36 9 34 := fun _ _ _ => by kernel_rfl
theorem fa36_10 : Fa Try.prog 36 10 39 := fun _ _ _ => by kernel_rfl
theorem fa36_11 : Fa Try.prog 36 11 40 := fun _ _ _ => by kernel_rfl
theorem fa36_12 : Fa Try.prog 36 12 41 := fun _ _ _ => by kernel_rfl
theorem fa36_13 : Fa Try.prog 36 13 42 := fun _ _ _ => by kernel_rfl
theorem fa36_14 : Fa Try.prog 36 14 43 := fun _ _ _ => by kernel_rfl
theorem fa36_15 : Fa Try.prog 36 15 48 := fun _ _ _ => by kernel_rfl
theorem ze36 : Ze Try.prog 36 [.int .i64 0, .int .u64 0, .int .i64 0, .int .u64 0, .int .i64 0, .int .u64 0, .int .u64 0, .int .u64 0, .int .i64 0, .int .u64 0, .int .i64 0, .int .u64 0, .int .u64 0, .int .u64 0, .bool false, .int .u64 0, .int .u64 0, .int .u64 0, .int .u64 0, .int .i64 0, .int .u64 0, .int .i64 0, .int .u64 0, .int .u64 0, .int .u64 0, .int .i64 0, .int .u64 0, .int .i64 0, .int .u64 0, .int .u64 0, .int .u64 0, .int .u64 0, .int .u64 0, .slice none 0 0, .int .i64 0, .int .i64 0, .string ⟨#[]⟩, .string ⟨#[]⟩, .string ⟨#[]⟩, .string ⟨#[]⟩, .slice none 0 0, .int .u64 0, .int .u64 0, .int .i64 0, .string ⟨#[]⟩, .string ⟨#[]⟩, .int .u64 0, .int .u64 0, .int .i64 0, .string ⟨#[]⟩, .int .u64 0] := ⟨.agg #[.int .i64 0, .int .u64 0, .int .i64 0, .int .u64 0, .int .i64 0, .int .u64 0, .int .u64 0, .int .u64 0, .int .i64 0, .int .u64 0, .int .i64 0, .int .u64 0, .int .u64 0, .int .u64 0, .bool false, .int .u64 0, .int .u64 0, .int .u64 0, .int .u64 0, .int .i64 0, .int .u64 0, .int .i64 0, .int .u64 0, .int .u64 0, .int .u64 0, .int .i64 0, .int .u64 0, .int .i64 0, .int .u64 0, .int .u64 0, .int .u64 0, .int .u64 0, .int .u64 0, .slice none 0 0, .int .i64 0, .int .i64 0, .string ⟨#[]⟩, .string ⟨#[]⟩, .string ⟨#[]⟩, .string ⟨#[]⟩, .slice none 0 0, .int .u64 0, .int .u64 0, .int .i64 0, .string ⟨#[]⟩, .string ⟨#[]⟩, .int .u64 0, .int .u64 0, .int .i64 0, .string ⟨#[]⟩, .int .u64 0], rfl, fun _ => by kernel_rfl⟩
theorem ag37 : Ag Try.prog 37 51 := ⟨fun _ => by kernel_rfl, fun _ => by kernel_rfl⟩
theorem fa37_0 : Fa Try.prog 37 0 0 := fun _ _ _ => by kernel_rfl
theorem fa37_1 : Fa Try.prog 37 1 1 := fun _ _ _ => by kernel_rfl
theorem fa37_2 : Fa Try.prog 37 2 7 := fun _ _ _ => by kernel_rfl
theorem fa37_3 : Fa Try.prog 37 3 13 := fun _ _ _ => by kernel_rfl
theorem fa37_4 : Fa Try.prog 37 4 14 := fun _ _ _ => by kernel_rfl
theorem fa37_5 : Fa Try.prog 37 5 30 := fun _ _ _ => by kernel_rfl
theorem fa37_6 : Fa Try.prog 37 6 31 := fun _ _ _ => by kernel_rfl
theorem fa37_7 : Fa Try.prog 37 7 32 := fun _ _ _ => by kernel_rfl
theorem fa37_8 : Fa Try.prog 37 8 33 := fun _ _ _ => by kernel_rfl
theorem fa37_9 : Fa Try.prog 37 9 34 := fun _ _ _ => by kernel_rfl
theorem fa37_10 : Fa Try.prog 37 10 39 := fun _ _ _ => by kernel_rfl
theorem fa37_11 : Fa Try.prog 37 11 40 := fun _ _ _ => by kernel_rfl
theorem fa37_12 : Fa Try.prog 37 12 41 := fun _ _ _ => by kernel_rfl
theorem fa37_13 : Fa Try.prog 37 13 42 := fun _ _ _ => by kernel_rfl
theorem fa37_14 : Fa Try.prog 37 14 43 := fun _ _ _ => by kernel_rfl
theorem fa37_15 : Fa Try.prog 37 15 48 := fun _ _ _ => by kernel_rfl
theorem ze37 : Ze Try.prog 37 [.int .i64 0, .int .u64 0, .int .i64 0, .int .u64 0, .int .i64 0, .int .u64 0, .int .u64 0, .int .u64 0, .int .i64 0, .int .u64 0, .int .i64 0, .int .u64 0, .int .u64 0, .int .u64 0, .bool false, .int .u64 0, .int .u64 0, .int .u64 0, .int .u64 0, .int .i64 0, .int .u64 0, .int .i64 0, .int .u64 0, .int .u64 0, .int .u64 0, .int .i64 0, .int .u64 0, .int .i64 0, .int .u64 0, .int .u64 0, .int .u64 0, .int .u64 0, .int .u64 0, .slice none 0 0, .int .i64 0, .int .i64 0, .string ⟨#[]⟩, .string ⟨#[]⟩, .string ⟨#[]⟩, .string ⟨#[]⟩, .slice none 0 0, .int .u64 0, .int .u64 0, .int .i64 0, .string ⟨#[]⟩, .string ⟨#[]⟩, .int .u64 0, .int .u64 0, .int .i64 0, .string ⟨#[]⟩, .int .u64 0] := ⟨.agg #[.int .i64 0, .int .u64 0, .int .i64 0, .int .u64 0, .int .i64 0, .int .u64 0, .int .u64 0, .int .u64 0, .int .i64 0, .int .u64 0, .int .i64 0, .int .u64 0, .int .u64 0, .int .u64 0, .bool false, .int .u64 0, .int .u64 0, .int .u64 0, .int .u64 0, .int .i64 0, .int .u64 0, .int .i64 0, .int .u64 0, .int .u64 0, .int .u64 0, .int .i64 0, .int .u64 0, .int .i64 0, .int .u64 0, .int .u64 0, .int .u64 0, .int .u64 0, .int .u64 0, .slice none 0 0, .int .i64 0, .int .i64 0, .string ⟨#[]⟩, .string ⟨#[]⟩, .string ⟨#[]⟩, .string ⟨#[]⟩, .slice none 0 0, .int .u64 0, .int .u64 0, .int .i64 0, .string ⟨#[]⟩, .string ⟨#[]⟩, .int .u64 0, .int .u64 0, .int .i64 0, .string ⟨#[]⟩, .int .u64 0], rfl, fun _ => by kernel_rfl⟩
theorem sc38 : Sc Try.prog 38 := ⟨fun _ => by kernel_rfl, fun _ => by kernel_rfl⟩
theorem sc39 : Sc Try.prog 39 := ⟨fun _ => by kernel_rfl, fun _ => by kernel_rfl⟩
theorem ze39 : Ze Try.prog 39 [.nilFunc] := ⟨.nilFunc, rfl, fun _ => by kernel_rfl⟩
theorem sc40 : Sc Try.prog 40 := ⟨fun _ => by kernel_rfl, fun _ => by kernel_rfl⟩
theorem ze40 : Ze Try.prog 40 [.nilFunc] := ⟨.nilFunc, rfl, fun _ => by kernel_rfl⟩
theorem sc41 : Sc Try.prog 41 := ⟨fun _ => by kernel_rfl, fun _ => by kernel_rfl⟩
theorem sc42 : Sc Try.prog 42 := ⟨fun _ => by kernel_rfl, fun _ => by kernel_rfl⟩
theorem ze42 : Ze Try.prog 42 [.nilFunc] := ⟨.nilFunc, rfl, fun _ => by kernel_rfl⟩
theorem sc43 : Sc Try.prog 43 := ⟨fun _ => by kernel_rfl, fun _ => by kernel_rfl⟩
theorem ze43 : Ze Try.prog 43 [.nilFunc] := ⟨.nilFunc, rfl, fun _ => by kernel_rfl⟩
theorem sc44 : Sc Try.prog 44 := ⟨fun _ => by kernel_rfl, fun _ => by kernel_rfl⟩
theorem ze44 : Ze Try.prog 44 [.nilFunc] := ⟨.nilFunc, rfl, fun _ => by kernel_rfl⟩
theorem sc45 : Sc Try.prog 45 := ⟨fun _ => by kernel_rfl, fun _ => by kernel_rfl⟩
theorem ze45 : Ze Try.prog 45 [.slice none 0 0] := ⟨.slice none 0 0, rfl, fun _ => by kernel_rfl⟩
theorem sc46 : Sc Try.prog 46 := ⟨fun _ => by kernel_rfl, fun _ => by kernel_rfl⟩
theorem ze46 : Ze Try.prog 46 [.nilFunc] := ⟨.nilFunc, rfl, fun _ => by kernel_rfl⟩
theorem sc47 : Sc Try.prog 47 := ⟨fun _ => by kernel_rfl, fun _ => by kernel_rfl⟩
theorem ze47 : Ze Try.prog 47 [.slice none 0 0] := ⟨.slice none 0 0, rfl, fun _ => by kernel_rfl⟩
theorem sc48 : Sc Try.prog 48 := ⟨fun _ => by kernel_rfl, fun _ => by kernel_rfl⟩
theorem ze48 : Ze Try.prog 48 [.slice none 0 0] := ⟨.slice none 0 0, rfl, fun _ => by kernel_rfl⟩
theorem sc49 : Sc Try.prog 49 := ⟨fun _ => by kernel_rfl, fun _ => by kernel_rfl⟩
theorem ze49 : Ze Try.prog 49 [.pointer none] := ⟨.pointer none, rfl, fun _ => by kernel_rfl⟩
theorem sc50 : Sc Try.prog 50 := ⟨fun _ => by kernel_rfl, fun _ => by kernel_rfl⟩
theorem sc51 : Sc Try.prog 51 := ⟨fun _ => by kernel_rfl, fun _ => by kernel_rfl⟩
theorem ze51 : Ze Try.prog 51 [.nilFunc] := ⟨.nilFunc, rfl, fun _ => by kernel_rfl⟩
theorem ag52 : Ag Try.prog 52 3 := ⟨fun _ => by kernel_rfl, fun _ => by kernel_rfl⟩
theorem fa52_0 : Fa Try.prog 52 0 0 := fun _ _ _ => by kernel_rfl
theorem fa52_1 : Fa Try.prog 52 1 1 := fun _ _ _ => by kernel_rfl
theorem fa52_2 : Fa Try.prog 52 2 2 := fun _ _ _ => by kernel_rfl
theorem ze52 : Ze Try.prog 52 [.int .i64 0, .int .i64 0, .int .i64 0] := ⟨.agg #[.int .i64 0, .int .i64 0, .int .i64 0], rfl, fun _ => by kernel_rfl⟩
theorem ag53 : Ag Try.prog 53 3 := ⟨fun _ => by kernel_rfl, fun _ => by kernel_rfl⟩
theorem fa53_0 : Fa Try.prog 53 0 0 := fun _ _ _ => by kernel_rfl
theorem fa53_1 : Fa Try.prog 53 1 1 := fun _ _ _ => by kernel_rfl
theorem fa53_2 : Fa Try.prog 53 2 2 := fun _ _ _ => by kernel_rfl
theorem ze53 : Ze Try.prog 53 [.int .i64 0, .int .i64 0, .int .i64 0] := ⟨.agg #[.int .i64 0, .int .i64 0, .int .i64 0], rfl, fun _ => by kernel_rfl⟩
theorem sc54 : Sc Try.prog 54 := ⟨fun _ => by kernel_rfl, fun _ => by kernel_rfl⟩
theorem ze54 : Ze Try.prog 54 [.slice none 0 0] := ⟨.slice none 0 0, rfl, fun _ => by kernel_rfl⟩
theorem sc55 : Sc Try.prog 55 := ⟨fun _ => by kernel_rfl, fun _ => by kernel_rfl⟩
theorem ze55 : Ze Try.prog 55 [.nilFunc] := ⟨.nilFunc, rfl, fun _ => by kernel_rfl⟩
theorem sc56 : Sc Try.prog 56 := ⟨fun _ => by kernel_rfl, fun _ => by kernel_rfl⟩
theorem ze56 : Ze Try.prog 56 [.nilFunc] := ⟨.nilFunc, rfl, fun _ => by kernel_rfl⟩
theorem sc57 : Sc Try.prog 57 := ⟨fun _ => by kernel_rfl, fun _ => by kernel_rfl⟩
theorem ze57 : Ze Try.prog 57 [.nilFunc] := ⟨.nilFunc, rfl, fun _ => by kernel_rfl⟩
theorem ag58 : Ag Try.prog 58 4 := ⟨fun _ => by kernel_rfl, fun _ => by kernel_rfl⟩
theorem fa58_0 : Fa Try.prog 58 0 0 := fun _ _ _ => by kernel_rfl
theorem fa58_1 : Fa Try.prog 58 1 1 := fun _ _ _ => by kernel_rfl
theorem fa58_2 : Fa Try.prog 58 2 2 := fun _ _ _ => by kernel_rfl
theorem fa58_3 : Fa Try.prog 58 3 3 := fun _ _ _ => by kernel_rfl
theorem ze58 : Ze Try.prog 58 [.int .i64 0, .int .i64 0, .string ⟨#[]⟩, .bool false] := ⟨.agg #[.int .i64 0, .int .i64 0, .string ⟨#[]⟩, .bool false], rfl, fun _ => by kernel_rfl⟩
theorem ag59 : Ag Try.prog 59 4 := ⟨fun _ => by kernel_rfl, fun _ => by kernel_rfl⟩
theorem fa59_0 : Fa Try.prog 59 0 0 := fun _ _ _ => by kernel_rfl
theorem fa59_1 : Fa Try.prog 59 1 1 := fun _ _ _ => by kernel_rfl
theorem fa59_2 : Fa Try.prog 59 2 2 := fun _ _ _ => by kernel_rfl
theorem fa59_3 : Fa Try.prog 59 3 3 := fun _ _ _ => by kernel_rfl
theorem ze59 : Ze Try.prog 59 [.int .i64 0, .int .i64 0, .string ⟨#[]⟩, .bool false] := ⟨.agg #[.int .i64 0, .int .i64 0, .string ⟨#[]⟩, .bool false], rfl, fun _ => by kernel_rfl⟩
theorem sc60 : Sc Try.prog 60 := ⟨fun _ => by kernel_rfl, fun _ => by kernel_rfl⟩
theorem ze60 : Ze Try.prog 60 [.nilFunc] := ⟨.nilFunc, rfl, fun _ => by kernel_rfl⟩
theorem sc61 : Sc Try.prog 61 := ⟨fun _ => by kernel_rfl, fun _ => by kernel_rfl⟩
theorem ze61 : Ze Try.prog 61 [.nilFunc] := ⟨.nilFunc, rfl, fun _ => by kernel_rfl⟩
theorem sc62 : Sc Try.prog 62 := ⟨fun _ => by kernel_rfl, fun _ => by kernel_rfl⟩
theorem ze62 : Ze Try.prog 62 [.slice none 0 0] := ⟨.slice none 0 0, rfl, fun _ => by kernel_rfl⟩
theorem sc63 : Sc Try.prog 63 := ⟨fun _ => by kernel_rfl, fun _ => by kernel_rfl⟩
theorem ze63 : Ze Try.prog 63 [.nilFunc] := ⟨.nilFunc, rfl, fun _ => by kernel_rfl⟩
theorem ag64 : Ag Try.prog 64 9 := ⟨fun _ => by kernel_rfl, fun _ => by kernel_rfl⟩
theorem fa64_0 : Fa Try.prog 64 0 0 := fun _ _ _ => by kernel_rfl
theorem fa64_1 : Fa Try.prog 64 1 1 := fun _ _ _ => by kernel_rfl
theorem fa64_2 : Fa Try.prog 64 2 2 := fun _ _ _ => by kernel_rfl
theorem fa64_3 : Fa Try.prog 64 3 3 := fun _ _ _ => by kernel_rfl
theorem fa64_4 : Fa Try.prog 64 4 4 := fun _ _ _ => by kernel_rfl
theorem fa64_5 : Fa Try.prog 64 5 7 := fun _ _ _ => by kernel_rfl
theorem fa64_6 : Fa Try.prog 64 6 8 := fun _ _ _ => by kernel_rfl
theorem ze64 : Ze Try.prog 64 [.int .u64 0, .int .u64 0, .int .u64 0, .int .u64 0, .int .i64 0, .string ⟨#[]⟩, .int .u64 0, .int .i64 0, .int .i64 0] := ⟨.agg #[.int .u64 0, .int .u64 0, .int .u64 0, .int .u64 0, .int .i64 0, .string ⟨#[]⟩, .int .u64 0, .int .i64 0, .int .i64 0], rfl, fun _ => by kernel_rfl⟩
theorem ag65 : Ag Try.prog 65 9 := ⟨fun _ => by kernel_rfl, fun _ => by kernel_rfl⟩
theorem fa65_0 : Fa Try.prog 65 0 0 := fun _ _ _ => by kernel_rfl
theorem fa65_1 : Fa Try.prog 65 1 1 := fun _ _ _ => by kernel_rfl
theorem fa65_2 : Fa Try.prog 65 2 2 := fun _ _ _ => by kernel_rfl
theorem fa65_3 : Fa Try.prog 65 3 3 := fun _ _ _ => by kernel_rfl
theorem fa65_4 : Fa Try.prog 65 4 4 := fun _ _ _ => by kernel_rfl
theorem fa65_5 : Fa Try.prog 65 5 7 := fun _ _ _ => by kernel_rfl
theorem fa65_6 : Fa Try.prog 65 6 8 := fun _ _ _ => by kernel_rfl
theorem ze65 : Ze Try.prog 65 [.int .u64 0, .int .u64 0, .int .u64 0, .int .u64 0, .int .i64 0, .string ⟨#[]⟩, .int .u64 0, .int .i64 0, .int .i64 0] := ⟨.agg #[.int .u64 0, .int .u64 0, .int .u64 0, .int .u64 0, .int .i64 0, .string ⟨#[]⟩, .int .u64 0, .int .i64 0, .int .i64 0], rfl, fun _ => by kernel_rfl⟩
theorem sc66 : Sc Try.prog 66 := ⟨fun _ => by kernel_rfl, fun _ => by kernel_rfl⟩
theorem ze66 : Ze Try.prog 66 [.nilFunc] := ⟨.nilFunc, rfl, fun _ => by kernel_rfl⟩
theorem sc67 : Sc Try.prog 67 := ⟨fun _ => by kernel_rfl, fun _ => by kernel_rfl⟩
theorem ze67 : Ze Try.prog 67 [.slice none 0 0] := ⟨.slice none 0 0, rfl, fun _ => by kernel_rfl⟩
theorem sc68 : Sc Try.prog 68 := ⟨fun _ => by kernel_rfl, fun _ => by kernel_rfl⟩
theorem ze68 : Ze Try.prog 68 [.nilFunc] := ⟨.nilFunc, rfl, fun _ => by kernel_rfl⟩
theorem sc69 : Sc Try.prog 69 := ⟨fun _ => by kernel_rfl, fun _ => by kernel_rfl⟩
theorem ze69 : Ze Try.prog 69 [.nilFunc] := ⟨.nilFunc, rfl, fun _ => by kernel_rfl⟩
theorem sc70 : Sc Try.prog 70 := ⟨fun _ => by kernel_rfl, fun _ => by kernel_rfl⟩
theorem ze70 : Ze Try.prog 70 [.nilFunc] := ⟨.nilFunc, rfl, fun _ => by kernel_rfl⟩
theorem sc71 : Sc Try.prog 71 := ⟨fun _ => by kernel_rfl, fun _ => by kernel_rfl⟩
theorem ze71 : Ze Try.prog 71 [.pointer none] := ⟨.pointer none, rfl, fun _ => by kernel_rfl⟩
theorem sc72 : Sc Try.prog 72 := ⟨fun _ => by kernel_rfl, fun _ => by kernel_rfl⟩
theorem ze72 : Ze Try.prog 72 [.nilFunc] := ⟨.nilFunc, rfl, fun _ => by kernel_rfl⟩
theorem sc73 : Sc Try.prog 73 := ⟨fun _ => by kernel_rfl, fun _ => by kernel_rfl⟩
theorem sc74 : Sc Try.prog 74 := ⟨fun _ => by kernel_rfl, fun _ => by kernel_rfl⟩
theorem ze74 : Ze Try.prog 74 [.nilFunc] := ⟨.nilFunc, rfl, fun _ => by kernel_rfl⟩
theorem sc75 : Sc Try.prog 75 := ⟨fun _ => by kernel_rfl, fun _ => by kernel_rfl⟩
theorem sc76 : Sc Try.prog 76 := ⟨fun _ => by kernel_rfl, fun _ => by kernel_rfl⟩
theorem ze76 : Ze Try.prog 76 [.nilFunc] := ⟨.nilFunc, rfl, fun _ => by kernel_rfl⟩
theorem sc77 : Sc Try.prog 77 := ⟨fun _ => by kernel_rfl, fun _ => by kernel_rfl⟩
theorem ze77 : Ze Try.prog 77 [.nilFunc] := ⟨.nilFunc, rfl, fun _ => by kernel_rfl⟩
theorem sc78 : Sc Try.prog 78 := ⟨fun _ => by kernel_rfl, fun _ => by kernel_rfl⟩
theorem ze78 : Ze Try.prog 78 [.nilFunc] := ⟨.nilFunc, rfl, fun _ => by kernel_rfl⟩
theorem sc79 : Sc Try.prog 79 := ⟨fun _ => by kernel_rfl, fun _ => by kernel_rfl⟩
theorem ze79 : Ze Try.prog 79 [.nilFunc] := ⟨.nilFunc, rfl, fun _ => by kernel_rfl⟩
theorem sc80 : Sc Try.prog 80 := ⟨fun _ => by kernel_rfl, fun _ => by kernel_rfl⟩
theorem ze80 : Ze Try.prog 80 [.nilFunc] := ⟨.nilFunc, rfl, fun _ => by kernel_rfl⟩
theorem sc81 : Sc Try.prog 81 := ⟨fun _ => by kernel_rfl, fun _ => by kernel_rfl⟩
theorem ze81 : Ze Try.prog 81 [.nilFunc] := ⟨.nilFunc, rfl, fun _ => by kernel_rfl⟩
theorem sc82 : Sc Try.prog 82 := ⟨fun _ => by kernel_rfl, fun _ => by kernel_rfl⟩
theorem ze82 : Ze Try.prog 82 [.nilFunc] := ⟨.nilFunc, rfl, fun _ => by kernel_rfl⟩
theorem sc83 : Sc Try.prog 83 := ⟨fun _ => by kernel_rfl, fun _ => by kernel_rfl⟩
theorem ze83 : Ze Try.prog 83 [.pointer none] := ⟨.pointer none, rfl, fun _ => by kernel_rfl⟩
theorem sc84 : Sc Try.prog 84 := ⟨fun _ => by kernel_rfl, fun _ => by kernel_rfl⟩
theorem ze84 : Ze Try.prog 84 [.nilFunc] := ⟨.nilFunc, rfl, fun _ => by kernel_rfl⟩
theorem sc85 : Sc Try.prog 85 := ⟨fun _ => by kernel_rfl, fun _ => by kernel_rfl⟩
theorem ze85 : Ze Try.prog 85 [.nilFunc] := ⟨.nilFunc, rfl, fun _ => by kernel_rfl⟩
theorem sc86 : Sc Try.prog 86 := ⟨fun _ => by kernel_rfl, fun _ => by kernel_rfl⟩
theorem ze86 : Ze Try.prog 86 [.nilFunc] := ⟨.nilFunc, rfl, fun _ => by kernel_rfl⟩
theorem sc87 : Sc Try.prog 87 := ⟨fun _ => by kernel_rfl, fun _ => by kernel_rfl⟩
theorem ze87 : Ze Try.prog 87 [.nilFunc] := ⟨.nilFunc, rfl, fun _ => by kernel_rfl⟩
theorem ag88 : Ag Try.prog 88 9 := ⟨fun _ => by kernel_rfl, fun _ => by kernel_rfl⟩
theorem fa88_0 : Fa Try.prog 88 0 0 := fun _ _ _ => by kernel_rfl
theorem fa88_1 : Fa Try.prog 88 1 1 := fun _ _ _ => by kernel_rfl
theorem fa88_2 : Fa Try.prog 88 2 2 := fun _ _ _ => by kernel_rfl
theorem fa88_3 : Fa Try.prog 88 3 3 := fun _ _ _ => by kernel_rfl
theorem fa88_4 : Fa Try.prog 88 4 4 := fun _ _ _ => by kernel_rfl
theorem ze88 : Ze Try.prog 88 [.int .u64 0, .int .u64 0, .int .u64 0, .int .u64 0, .int .i64 0, .string ⟨#[]⟩, .string ⟨#[]⟩, .int .u64 0, .int .u64 0] := ⟨.agg #[.int .u64 0, .int .u64 0, .int .u64 0, .int .u64 0, .int .i64 0, .string ⟨#[]⟩, .string ⟨#[]⟩, .int .u64 0, .int .u64 0], rfl, fun _ => by kernel_rfl⟩
theorem ag89 : Ag Try.prog 89 9 := ⟨fun _ => by kernel_rfl, fun _ => by kernel_rfl⟩
theorem fa89_0 : Fa Try.prog 89 0 0 := fun _ _ _ => by kernel_rfl
theorem fa89_1 : Fa Try.prog 89 1 1 := fun _ _ _ => by kernel_rfl
theorem fa89_2 : Fa Try.prog 89 2 2 := fun _ _ _ => by kernel_rfl
theorem fa89_3 : Fa Try.prog 89 3 3 := fun _ _ _ => by kernel_rfl
theorem fa89_4 : Fa Try.prog 89 4 4 := fun _ _ _ => by kernel_rfl
theorem ze89 : Ze Try.prog 89 [.int .u64 0, .int .u64 0, .int .u64 0, .int .u64 0, .int .i64 0, .string ⟨#[]⟩, .string ⟨#[]⟩, .int .u64 0, .int .u64 0] := ⟨.agg #[.int .u64 0, .int .u64 0, .int .u64 0, .int .u64 0, .int .i64 0, .string ⟨#[]⟩, .string ⟨#[]⟩, .int .u64 0, .int .u64 0], rfl, fun _ => by kernel_rfl⟩
theorem sc90 : Sc Try.prog 90 := ⟨fun _ => by kernel_rfl, fun _ => by kernel_rfl⟩
theorem ze90 : Ze Try.prog 90 [.nilFunc] := ⟨.nilFunc, rfl, fun _ => by kernel_rfl⟩
theorem sc91 : Sc Try.prog 91 := ⟨fun _ => by kernel_rfl, fun _ => by kernel_rfl⟩
theorem ze91 : Ze Try.prog 91 [.int .u32 0] := ⟨.int .u32 0, rfl, fun _ => by kernel_rfl⟩
theorem sc92 : Sc Try.prog 92 := ⟨fun _ => by kernel_rfl, fun _ => by kernel_rfl⟩
theorem ze92 : Ze Try.prog 92 [.nilFunc] := ⟨.nilFunc, rfl, fun _ => by kernel_rfl⟩
theorem sc93 : Sc Try.prog 93 := ⟨fun _ => by kernel_rfl, fun _ => by kernel_rfl⟩
theorem ze93 : Ze Try.prog 93 [.nilFunc] := ⟨.nilFunc, rfl, fun _ => by kernel_rfl⟩
theorem sc94 : Sc Try.prog 94 := ⟨fun _ => by kernel_rfl, fun _ => by kernel_rfl⟩
theorem ze94 : Ze Try.prog 94 [.nilFunc] := ⟨.nilFunc, rfl, fun _ => by kernel_rfl⟩
theorem sc95 : Sc Try.prog 95 := ⟨fun _ => by kernel_rfl, fun _ => by kernel_rfl⟩
theorem ze95 : Ze Try.prog 95 [.nilFunc] := ⟨.nilFunc, rfl, fun _ => by kernel_rfl⟩
theorem ag96 : Ag Try.prog 96 9 := ⟨fun _ => by kernel_rfl, fun _ => by kernel_rfl⟩
theorem fa96_0 : Fa Try.prog 96 0 0 := fun _ _ _ => by kernel_rfl
theorem fa96_1 : Fa Try.prog 96 1 1 := fun _ _ _ => by kernel_rfl
theorem fa96_2 : Fa Try.prog 96 2 2 := fun _ _ _ => by kernel_rfl
theorem fa96_3 : Fa Try.prog 96 3 3 := fun _ _ _ => by kernel_rfl
theorem fa96_4 : Fa Try.prog 96 4 4 := fun _ _ _ => by kernel_rfl
theorem fa96_5 : Fa Try.prog 96 5 5 := fun _ _ _ => by kernel_rfl
theorem fa96_6 : Fa Try.prog 96 6 6 := fun _ _ _ => by kernel_rfl
theorem fa96_7 : Fa Try.prog 96 7 7 := fun _ _ _ => by kernel_rfl
theorem fa96_8 : Fa Try.prog 96 8 8 := fun _ _ _ => by kernel_rfl
theorem ze96 : Ze Try.prog 96 [.int .i64 0, .slice none 0 0, .int .i64 0, .int .i64 0, .int .i64 0, .int .i64 0, .bool false, .slice none 0 0, .slice none 0 0] := ⟨.agg #[.int .i64 0, .slice none 0 0, .int .i64 0, .int .i64 0, .int .i64 0, .int .i64 0, .bool false, .slice none 0 0, .slice none 0 0], rfl, fun _ => by kernel_rfl⟩
theorem ag97 : Ag Try.prog 97 9 := ⟨fun _ => by kernel_rfl, fun _ => by kernel_rfl⟩
theorem fa97_0 : Fa Try.prog 97 0 0 := fun _ _ _ => by kernel_rfl
theorem fa97_1 : Fa Try.prog 97 1 1 := fun _ _ _ => by kernel_rfl
theorem fa97_2 : Fa Try.prog 97 2 2 := fun _ _ _ => by kernel_rfl
theorem fa97_3 : Fa Try.prog 97 3 3 := fun _ _ _ => by kernel_rfl
theorem fa97_4 : Fa Try.prog 97 4 4 := fun _ _ _ => by kernel_rfl
theorem fa97_5 : Fa Try.prog 97 5 5 := fun _ _ _ => by kernel_rfl
theorem fa97_6 : Fa Try.prog 97 6 6 := fun _ _ _ => by kernel_rfl
theorem fa97_7 : Fa Try.prog 97 7 7 := fun _ _ _ => by kernel_rfl
theorem fa97_8 : Fa Try.prog 97 8 8 := fun _ _ _ => by kernel_rfl
theorem ze97 : Ze Try.prog 97 [.int .i64 0, .slice none 0 0, .int .i64 0, .int .i64 0, .int .i64 0, .int .i64 0, .bool false, .slice none 0 0, .slice none 0 0] := ⟨.agg #[.int .i64 0, .slice none 0 0, .int .i64 0, .int .i64 0, .int .i64 0, .int .i64 0, .bool false, .slice none 0 0, .slice none 0 0], rfl, fun _ => by kernel_rfl⟩
theorem sc98 : Sc Try.prog 98 := ⟨fun _ => by kernel_rfl, fun _ => by kernel_rfl⟩
theorem ze98 : Ze Try.prog 98 [.nilFunc] := ⟨.nilFunc, rfl, fun _ => by kernel_rfl⟩
theorem sc99 : Sc Try.prog 99 := ⟨fun _ => by kernel_rfl, fun _ => by kernel_rfl⟩
theorem ze99 : Ze Try.prog 99 [.nilFunc] := ⟨.nilFunc, rfl, fun _ => by kernel_rfl⟩
theorem sc100 : Sc Try.prog 100 := ⟨fun _ => by kernel_rfl, fun _ => by kernel_rfl⟩
theorem ze100 : Ze Try.prog 100 [.nilFunc] := ⟨.nilFunc, rfl, fun _ => by kernel_rfl⟩
theorem sc101 : Sc Try.prog 101 := ⟨fun _ => by kernel_rfl, fun _ => by kernel_rfl⟩
theorem ze101 : Ze Try.prog 101 [.nilFunc] := ⟨.nilFunc, rfl, fun _ => by kernel_rfl⟩
theorem sc102 : Sc Try.prog 102 := ⟨fun _ => by kernel_rfl, fun _ => by kernel_rfl⟩
theorem ze102 : Ze Try.prog 102 [.pointer none] := ⟨.pointer none, rfl, fun _ => by kernel_rfl⟩
theorem sc103 : Sc Try.prog 103 := ⟨fun _ => by kernel_rfl, fun _ => by kernel_rfl⟩
theorem ze103 : Ze Try.prog 103 [.pointer none] := ⟨.pointer none, rfl, fun _ => by kernel_rfl⟩
theorem ag104 : Ag Try.prog 104 3 := ⟨fun _ => by kernel_rfl, fun _ => by kernel_rfl⟩
theorem fa104_0 : Fa Try.prog 104 0 0 := fun _ _ _ => by kernel_rfl
theorem fa104_1 : Fa Try.prog 104 1 1 := fun _ _ _ => by kernel_rfl
theorem fa104_2 : Fa Try.prog 104 2 2 := fun _ _ _ => by kernel_rfl
theorem ze104 : Ze Try.prog 104 [.int .i64 0, .pointer none, .pointer none] := ⟨.agg #[.int .i64 0, .pointer none, .pointer none], rfl, fun _ => by kernel_rfl⟩
theorem ag105 : Ag Try.prog 105 3 := ⟨fun _ => by kernel_rfl, fun _ => by kernel_rfl⟩
theorem fa105_0 : Fa Try.prog 105 0 0 := fun _ _ _ => by kernel_rfl
theorem fa105_1 : Fa Try.prog 105 1 1 := fun _ _ _ => by kernel_rfl
theorem fa105_2 : Fa Try.prog 105 2 2 := fun _ _ _ => by kernel_rfl
theorem ze105 : Ze Try.prog 105 [.int .i64 0, .pointer none, .pointer none] := ⟨.agg #[.int .i64 0, .pointer none, .pointer none], rfl, fun _ => by kernel_rfl⟩
theorem sc106 : Sc Try.prog 106 := ⟨fun _ => by kernel_rfl, fun _ => by kernel_rfl⟩
theorem sc107 : Sc Try.prog 107 := ⟨fun _ => by kernel_rfl, fun _ => by kernel_rfl⟩
theorem ze107 : Ze Try.prog 107 [.nilFunc] := ⟨.nilFunc, rfl, fun _ => by kernel_rfl⟩
theorem sc108 : Sc Try.prog 108 := ⟨fun _ => by kernel_rfl, fun _ => by kernel_rfl⟩
theorem sc109 : Sc Try.prog 109 := ⟨fun _ => by kernel_rfl, fun _ => by kernel_rfl⟩
theorem ze109 : Ze Try.prog 109 [.nilFunc] := ⟨.nilFunc, rfl, fun _ => by kernel_rfl⟩
theorem sc110 : Sc Try.prog 110 := ⟨fun _ => by kernel_rfl, fun _ => by kernel_rfl⟩
theorem ze110 : Ze Try.prog 110 [.nilFunc] := ⟨.nilFunc, rfl, fun _ => by kernel_rfl⟩
theorem ag111 : Ag Try.prog 111 1 := ⟨fun _ => by kernel_rfl, fun _ => by kernel_rfl⟩
theorem fa111_0 : Fa Try.prog 111 0 0 := fun _ _ _ => by kernel_rfl
theorem ze111 : Ze Try.prog 111 [.int .i64 0] := ⟨.agg #[.int .i64 0], rfl, fun _ => by kernel_rfl⟩
theorem ag112 : Ag Try.prog 112 1 := ⟨fun _ => by kernel_rfl, fun _ => by kernel_rfl⟩
theorem fa112_0 : Fa Try.prog 112 0 0 := fun _ _ _ => by kernel_rfl
theorem ze112 : Ze Try.prog 112 [.int .i64 0] := ⟨.agg #[.int .i64 0], rfl, fun _ => by kernel_rfl⟩
theorem ag113 : Ag Try.prog 113 1 := ⟨fun _ => by kernel_rfl, fun _ => by kernel_rfl⟩
theorem fa113_0 : Fa Try.prog 113 0 0 := fun _ _ _ => by kernel_rfl
theorem ze113 : Ze Try.prog 113 [.string ⟨#[]⟩] := ⟨.agg #[.string ⟨#[]⟩], rfl, fun _ => by kernel_rfl⟩
theorem ag114 : Ag Try.prog 114 1 := ⟨fun _ => by kernel_rfl, fun _ => by kernel_rfl⟩
theorem fa114_0 : Fa Try.prog 114 0 0 := fun _ _ _ => by kernel_rfl
theorem ze114 : Ze Try.prog 114 [.string ⟨#[]⟩] := ⟨.agg #[.string ⟨#[]⟩], rfl, fun _ => by kernel_rfl⟩
theorem sc115 : Sc Try.prog 115 := ⟨fun _ => by kernel_rfl, fun _ => by kernel_rfl⟩
theorem ze115 : Ze Try.prog 115 [.nilFunc] := ⟨.nilFunc, rfl, fun _ => by kernel_rfl⟩
theorem sc116 : Sc Try.prog 116 := ⟨fun _ => by kernel_rfl, fun _ => by kernel_rfl⟩
theorem ze116 : Ze Try.prog 116 [.nilFunc] := ⟨.nilFunc, rfl, fun _ => by kernel_rfl⟩
theorem sc117 : Sc Try.prog 117 := ⟨fun _ => by kernel_rfl, fun _ => by kernel_rfl⟩
theorem ze117 : Ze Try.prog 117 [.nilFunc] := ⟨.nilFunc, rfl, fun _ => by kernel_rfl⟩
theorem sc118 : Sc Try.prog 118 := ⟨fun _ => by kernel_rfl, fun _ => by kernel_rfl⟩
theorem ze118 : Ze Try.prog 118 [.nilFunc] := ⟨.nilFunc, rfl, fun _ => by kernel_rfl⟩
theorem sc119 : Sc Try.prog 119 := ⟨fun _ => by kernel_rfl, fun _ => by kernel_rfl⟩
theorem ze119 : Ze Try.prog 119 [.nilFunc] := ⟨.nilFunc, rfl, fun _ => by kernel_rfl⟩
theorem sc120 : Sc Try.prog 120 := ⟨fun _ => by kernel_rfl, fun _ => by kernel_rfl⟩
theorem ze120 : Ze Try.prog 120 [.nilFunc] := ⟨.nilFunc, rfl, fun _ => by kernel_rfl⟩
theorem sc121 : Sc Try.prog 121 := ⟨fun _ => by kernel_rfl, fun _ => by kernel_rfl⟩
theorem ze121 : Ze Try.prog 121 [.nilFunc] := ⟨.nilFunc, rfl, fun _ => by kernel_rfl⟩
theorem sc122 : Sc Try.prog 122 := ⟨fun _ => by kernel_rfl, fun _ => by kernel_rfl⟩
theorem ze122 : Ze Try.prog 122 [.nilFunc] := ⟨.nilFunc, rfl, fun _ => by kernel_rfl⟩
theorem sc123 : Sc Try.prog 123 := ⟨fun _ => by kernel_rfl, fun _ => by kernel_rfl⟩
theorem ze123 : Ze Try.prog 123 [.nilFunc] := ⟨.nilFunc, rfl, fun _ => by kernel_rfl⟩
theorem sc124 : Sc Try.prog 124 := ⟨fun _ => by kernel_rfl, fun _ => by kernel_rfl⟩
theorem ze124 : Ze Try.prog 124 [.nilFunc] := ⟨.nilFunc, rfl, fun _ => by kernel_rfl⟩
theorem sc125 : Sc Try.prog 125 := ⟨fun _ => by kernel_rfl, fun _ => by kernel_rfl⟩
theorem ze125 : Ze Try.prog 125 [.nilFunc] := ⟨.nilFunc, rfl, fun _ => by kernel_rfl⟩
theorem sc126 : Sc Try.prog 126 := ⟨fun _ => by kernel_rfl, fun _ => by kernel_rfl⟩
theorem ze126 : Ze Try.prog 126 [.nilFunc] := ⟨.nilFunc, rfl, fun _ => by kernel_rfl⟩
theorem sc127 : Sc Try.prog 127 := ⟨fun _ => by kernel_rfl, fun _ => by kernel_rfl⟩
theorem ze127 : Ze Try.prog 127 [.nilFunc] := ⟨.nilFunc, rfl, fun _ => by kernel_rfl⟩
theorem sc128 : Sc Try.prog 128 := ⟨fun _ => by kernel_rfl, fun _ => by kernel_rfl⟩
theorem ze128 : Ze Try.prog 128 [.nilFunc] := ⟨.nilFunc, rfl, fun _ => by kernel_rfl⟩
theorem sc129 : Sc Try.prog 129 := ⟨fun _ => by kernel_rfl, fun _ => by kernel_rfl⟩
theorem ze129 : Ze Try.prog 129 [.nilFunc] := ⟨.nilFunc, rfl, fun _ => by kernel_rfl⟩
theorem sc130 : Sc Try.prog 130 := ⟨fun _ => by kernel_rfl, fun _ => by kernel_rfl⟩
theorem ze130 : Ze Try.prog 130 [.nilFunc] := ⟨.nilFunc, rfl, fun _ => by kernel_rfl⟩
theorem sc131 : Sc Try.prog 131 := ⟨fun _ => by kernel_rfl, fun _ => by kernel_rfl⟩
theorem ze131 : Ze Try.prog 131 [.int .u64 0] := ⟨.int .u64 0, rfl, fun _ => by kernel_rfl⟩
theorem sc132 : Sc Try.prog 132 := ⟨fun _ => by kernel_rfl, fun _ => by kernel_rfl⟩
theorem ze132 : Ze Try.prog 132 [.nilFunc] := ⟨.nilFunc, rfl, fun _ => by kernel_rfl⟩
theorem sc133 : Sc Try.prog 133 := ⟨fun _ => by kernel_rfl, fun _ => by kernel_rfl⟩
theorem sc134 : Sc Try.prog 134 := ⟨fun _ => by kernel_rfl, fun _ => by kernel_rfl⟩
theorem ze134 : Ze Try.prog 134 [.pointer none] := ⟨.pointer none, rfl, fun _ => by kernel_rfl⟩
theorem sc135 : Sc Try.prog 135 := ⟨fun _ => by kernel_rfl, fun _ => by kernel_rfl⟩
theorem ze135 : Ze Try.prog 135 [.pointer none] := ⟨.pointer none, rfl, fun _ => by kernel_rfl⟩
theorem ag136 : Ag Try.prog 136 3 := ⟨fun _ => by kernel_rfl, fun _ => by kernel_rfl⟩
theorem fa136_0 : Fa Try.prog 136 0 0 := fun _ _ _ => by kernel_rfl
theorem fa136_1 : Fa Try.prog 136 1 1 := fun _ _ _ => by kernel_rfl
theorem fa136_2 : Fa Try.prog 136 2 2 := fun _ _ _ => by kernel_rfl
theorem ze136 : Ze Try.prog 136 [.int .i64 0, .pointer none, .pointer none] := ⟨.agg #[.int .i64 0, .pointer none, .pointer none], rfl, fun _ => by kernel_rfl⟩
theorem ag137 : Ag Try.prog 137 3 := ⟨fun _ => by kernel_rfl, fun _ => by kernel_rfl⟩
theorem fa137_0 : Fa Try.prog 137 0 0 := fun _ _ _ => by kernel_rfl
theorem fa137_1 : Fa Try.prog 137 1 1 := fun _ _ _ => by kernel_rfl
theorem fa137_2 : Fa Try.prog 137 2 2 := fun _ _ _ => by kernel_rfl
theorem ze137 : Ze Try.prog 137 [.int .i64 0, .pointer none, .pointer none] := ⟨.agg #[.int .i64 0, .pointer none, .pointer none], rfl, fun _ => by kernel_rfl⟩
theorem sc138 : Sc Try.prog 138 := ⟨fun _ => by kernel_rfl, fun _ => by kernel_rfl⟩
theorem ze138 : Ze Try.prog 138 [.nilFunc] := ⟨.nilFunc, rfl, fun _ => by kernel_rfl⟩
theorem sc139 : Sc Try.prog 139 := ⟨fun _ => by kernel_rfl, fun _ => by kernel_rfl⟩
theorem ze139 : Ze Try.prog 139 [.nilFunc] := ⟨.nilFunc, rfl, fun _ => by kernel_rfl⟩
theorem sc140 : Sc Try.prog 140 := ⟨fun _ => by kernel_rfl, fun _ => by kernel_rfl⟩
theorem ze140 : Ze Try.prog 140 [.nilFunc] := ⟨.nilFunc, rfl, fun _ => by kernel_rfl⟩
theorem sc141 : Sc Try.prog 141 := ⟨fun _ => by kernel_rfl, fun _ => by kernel_rfl⟩
theorem sc142 : Sc Try.prog 142 := ⟨fun _ => by kernel_rfl, fun _ => by kernel_rfl⟩
theorem ze142 : Ze Try.prog 142 [.nilFunc] := ⟨.nilFunc, rfl, fun _ => by kernel_rfl⟩
theorem ag143 : Ag Try.prog 143 3 := ⟨fun _ => by kernel_rfl, fun _ => by kernel_rfl⟩
theorem fa143_0 : Fa Try.prog 143 0 0 := fun _ _ _ => by kernel_rfl
theorem fa143_1 : Fa Try.prog 143 1 1 := fun _ _ _ => by kernel_rfl
theorem fa143_2 : Fa Try.prog 143 2 2 := fun _ _ _ => by kernel_rfl
theorem ze143 : Ze Try.prog 143 [.int .i64 0, .int .i64 0, .pointer none] := ⟨.agg #[.int .i64 0, .int .i64 0, .pointer none], rfl, fun _ => by kernel_rfl⟩
theorem ag144 : Ag Try.prog 144 3 := ⟨fun _ => by kernel_rfl, fun _ => by kernel_rfl⟩
theorem fa144_0 : Fa Try.prog 144 0 0 := fun _ _ _ => by kernel_rfl
theorem fa144_1 : Fa Try.prog 144 1 1 := fun _ _ _ => by kernel_rfl
theorem fa144_2 : Fa Try.prog 144 2 2 := fun _ _ _ => by kernel_rfl
theorem ze144 : Ze Try.prog 144 [.int .i64 0, .int .i64 0, .pointer none] := ⟨.agg #[.int .i64 0, .int .i64 0, .pointer none], rfl, fun _ => by kernel_rfl⟩
theorem sc145 : Sc Try.prog 145 := ⟨fun _ => by kernel_rfl, fun _ => by kernel_rfl⟩
theorem sc146 : Sc Try.prog 146 := ⟨fun _ => by kernel_rfl, fun _ => by kernel_rfl⟩
theorem ze146 : Ze Try.prog 146 [.nilFunc] := ⟨.nilFunc, rfl, fun _ => by kernel_rfl⟩
theorem sc147 : Sc Try.prog 147 := ⟨fun _ => by kernel_rfl, fun _ => by kernel_rfl⟩
theorem ze147 : Ze Try.prog 147 [.nilFunc] := ⟨.nilFunc, rfl, fun _ => by kernel_rfl⟩
theorem ag148 : Ag Try.prog 148 2 := ⟨fun _ => by kernel_rfl, fun _ => by kernel_rfl⟩
theorem fa148_0 : Fa Try.prog 148 0 0 := fun _ _ _ => by kernel_rfl
theorem fa148_1 : Fa Try.prog 148 1 1 := fun _ _ _ => by kernel_rfl
theorem ze148 : Ze Try.prog 148 [.int .i64 0, .int .i64 0] := ⟨.agg #[.int .i64 0, .int .i64 0], rfl, fun _ => by kernel_rfl⟩
theorem ag149 : Ag Try.prog 149 2 := ⟨fun _ => by kernel_rfl, fun _ => by kernel_rfl⟩
theorem fa149_0 : Fa Try.prog 149 0 0 := fun _ _ _ => by kernel_rfl
theorem fa149_1 : Fa Try.prog 149 1 1 := fun _ _ _ => by kernel_rfl
theorem ze149 : Ze Try.prog 149 [.int .i64 0, .int .i64 0] := ⟨.agg #[.int .i64 0, .int .i64 0], rfl, fun _ => by kernel_rfl⟩
theorem sc150 : Sc Try.prog 150 := ⟨fun _ => by kernel_rfl, fun _ => by kernel_rfl⟩
theorem ze150 : Ze Try.prog 150 [.nilFunc] := ⟨.nilFunc, rfl, fun _ => by kernel_rfl⟩
theorem sc151 : Sc Try.prog 151 := ⟨fun _ => by kernel_rfl, fun _ => by kernel_rfl⟩
theorem ze151 : Ze Try.prog 151 [.nilFunc] := ⟨.nilFunc, rfl, fun _ => by kernel_rfl⟩
theorem sc152 : Sc Try.prog 152 := ⟨fun _ => by kernel_rfl, fun _ => by kernel_rfl⟩
theorem ze152 : Ze Try.prog 152 [.nilFunc] := ⟨.nilFunc, rfl, fun _ => by kernel_rfl⟩
theorem sc153 : Sc Try.prog 153 := ⟨fun _ => by kernel_rfl, fun _ => by kernel_rfl⟩
theorem ze153 : Ze Try.prog 153 [.nilFunc] := ⟨.nilFunc, rfl, fun _ => by kernel_rfl⟩
theorem sc154 : Sc Try.prog 154 := ⟨fun _ => by kernel_rfl, fun _ => by kernel_rfl⟩
theorem ze154 : Ze Try.prog 154 [.pointer none] := ⟨.pointer none, rfl, fun _ => by kernel_rfl⟩
theorem ag155 : Ag Try.prog 155 2 := ⟨fun _ => by kernel_rfl, fun _ => by kernel_rfl⟩
theorem fa155_0 : Fa Try.prog 155 0 0 := fun _ _ _ => by kernel_rfl
theorem fa155_1 : Fa Try.prog 155 1 1 := fun _ _ _ => by kernel_rfl
theorem ze155 : Ze Try.prog 155 [.pointer none, .slice none 0 0] := ⟨.agg #[.pointer none, .slice none 0 0], rfl, fun _ => by kernel_rfl⟩
theorem ag156 : Ag Try.prog 156 2 := ⟨fun _ => by kernel_rfl, fun _ => by kernel_rfl⟩
theorem fa156_0 : Fa Try.prog 156 0 0 := fun _ _ _ => by kernel_rfl
theorem fa156_1 : Fa Try.prog 156 1 1 := fun _ _ _ => by kernel_rfl
theorem ze156 : Ze Try.prog 156 [.pointer none, .slice none 0 0] := ⟨.agg #[.pointer none, .slice none 0 0], rfl, fun _ => by kernel_rfl⟩
theorem sc157 : Sc Try.prog 157 := ⟨fun _ => by kernel_rfl, fun _ => by kernel_rfl⟩
theorem ze157 : Ze Try.prog 157 [.nilIface] := ⟨.nilIface, rfl, fun _ => by kernel_rfl⟩
theorem sc158 : Sc Try.prog 158 := ⟨fun _ => by kernel_rfl, fun _ => by kernel_rfl⟩
theorem ze158 : Ze Try.prog 158 [.nilIface] := ⟨.nilIface, rfl, fun _ => by kernel_rfl⟩
theorem sc159 : Sc Try.prog 159 := ⟨fun _ => by kernel_rfl, fun _ => by kernel_rfl⟩
theorem ze159 : Ze Try.prog 159 [.nilFunc] := ⟨.nilFunc, rfl, fun _ => by kernel_rfl⟩
theorem sc160 : Sc Try.prog 160 := ⟨fun _ => by kernel_rfl, fun _ => by kernel_rfl⟩
theorem ze160 : Ze Try.prog 160 [.nilFunc] := ⟨.nilFunc, rfl, fun _ => by kernel_rfl⟩
theorem sc161 : Sc Try.prog 161 := ⟨fun _ => by kernel_rfl, fun _ => by kernel_rfl⟩
theorem ze161 : Ze Try.prog 161 [.nilFunc] := ⟨.nilFunc, rfl, fun _ => by kernel_rfl⟩
theorem sc162 : Sc Try.prog 162 := ⟨fun _ => by kernel_rfl, fun _ => by kernel_rfl⟩
theorem ze162 : Ze Try.prog 162 [.nilFunc] := ⟨.nilFunc, rfl, fun _ => by kernel_rfl⟩
theorem sc163 : Sc Try.prog 163 := ⟨fun _ => by kernel_rfl, fun _ => by kernel_rfl⟩
theorem ze163 : Ze Try.prog 163 [.nilFunc] := ⟨.nilFunc, rfl, fun _ => by kernel_rfl⟩
theorem sc164 : Sc Try.prog 164 := ⟨fun _ => by kernel_rfl, fun _ => by kernel_rfl⟩
theorem ze164 : Ze Try.prog 164 [.slice none 0 0] := ⟨.slice none 0 0, rfl, fun _ => by kernel_rfl⟩
theorem sc165 : Sc Try.prog 165 := ⟨fun _ => by kernel_rfl, fun _ => by kernel_rfl⟩
theorem ze165 : Ze Try.prog 165 [.slice none 0 0] := ⟨.slice none 0 0, rfl, fun _ => by kernel_rfl⟩
theorem sc166 : Sc Try.prog 166 := ⟨fun _ => by kernel_rfl, fun _ => by kernel_rfl⟩
theorem ze166 : Ze Try.prog 166 [.map none] := ⟨.map none, rfl, fun _ => by kernel_rfl⟩
theorem ag167 : Ag Try.prog 167 5 := ⟨fun _ => by kernel_rfl, fun _ => by kernel_rfl⟩
theorem fa167_0 : Fa Try.prog 167 0 0 := fun _ _ _ => by kernel_rfl
theorem fa167_1 : Fa Try.prog 167 1 1 := fun _ _ _ => by kernel_rfl
theorem fa167_2 : Fa Try.prog 167 2 2 := fun _ _ _ => by kernel_rfl
theorem fa167_3 : Fa Try.prog 167 3 3 := fun _ _ _ => by kernel_rfl
theorem fa167_4 : Fa Try.prog 167 4 4 := fun _ _ _ => by kernel_rfl
theorem ze167 : Ze Try.prog 167 [.int .i64 0, .slice none 0 0, .slice none 0 0, .map none, .slice none 0 0] := ⟨.agg #[.int .i64 0, .slice none 0 0, .slice none 0 0, .map none, .slice none 0 0], rfl, fun _ => by kernel_rfl⟩
theorem ag168 : Ag Try.prog 168 5 := ⟨fun _ => by kernel_rfl, fun _ => by kernel_rfl⟩
theorem fa168_0 : Fa Try.prog 168 0 0 := fun _ _ _ => by kernel_rfl
theorem fa168_1 : Fa Try.prog 168 1 1 := fun _ _ _ => by kernel_rfl
theorem fa168_2 : Fa Try.prog 168 2 2 := fun _ _ _ => by kernel_rfl
theorem fa168_3 : Fa Try.prog 168 3 3 := fun _ _ _ => by kernel_rfl
theorem fa168_4 : Fa Try.prog 168 4 4 := fun _ _ _ => by kernel_rfl
theorem ze168 : Ze Try.prog 168 [.int .i64 0, .slice none 0 0, .slice none 0 0, .map none, .slice none 0 0] := ⟨.agg #[.int .i64 0, .slice none 0 0, .slice none 0 0, .map none, .slice none 0 0], rfl, fun _ => by kernel_rfl⟩
theorem ag169 : Ag Try.prog 169 4 := ⟨fun _ => by kernel_rfl, fun _ => by kernel_rfl⟩
theorem fa169_0 : Fa Try.prog 169 0 0 := fun _ _ _ => by kernel_rfl
theorem fa169_1 : Fa Try.prog 169 1 1 := fun _ _ _ => by kernel_rfl
theorem fa169_2 : Fa Try.prog 169 2 2 := fun _ _ _ => by kernel_rfl
theorem fa169_3 : Fa Try.prog 169 3 3 := fun _ _ _ => by kernel_rfl
theorem ze169 : Ze Try.prog 169 [.string ⟨#[]⟩, .int .i64 0, .int .i64 0, .int .i64 0] := ⟨.agg #[.string ⟨#[]⟩, .int .i64 0, .int .i64 0, .int .i64 0], rfl, fun _ => by kernel_rfl⟩
theorem ag170 : Ag Try.prog 170 4 := ⟨fun _ => by kernel_rfl, fun _ => by kernel_rfl⟩
theorem fa170_0 : Fa Try.prog 170 0 0 := fun _ _ _ => by kernel_rfl
theorem fa170_1 : Fa Try.prog 170 1 1 := fun _ _ _ => by kernel_rfl
theorem fa170_2 : Fa Try.prog 170 2 2 := fun _ _ _ => by kernel_rfl
theorem fa170_3 : Fa Try.prog 170 3 3 := fun _ _ _ => by kernel_rfl
theorem ze170 : Ze Try.prog 170 [.string ⟨#[]⟩, .int .i64 0, .int .i64 0, .int .i64 0] := ⟨.agg #[.string ⟨#[]⟩, .int .i64 0, .int .i64 0, .int .i64 0], rfl, fun _ => by kernel_rfl⟩
theorem sc171 : Sc Try.prog 171 := ⟨fun _ => by kernel_rfl, fun _ => by kernel_rfl⟩
theorem ze171 : Ze Try.prog 171 [.nilFunc] := ⟨.nilFunc, rfl, fun _ => by kernel_rfl⟩
theorem ag172 : Ag Try.prog 172 4 := ⟨fun _ => by kernel_rfl, fun _ => by kernel_rfl⟩
theorem ze172 : Ze Try.prog 172 [.slice none 0 0, .slice none 0 0, .slice none 0 0, .slice none 0 0] := ⟨.agg #[.slice none 0 0, .slice none 0 0, .slice none 0 0, .slice none 0 0], rfl, fun _ => by kernel_rfl⟩
theorem sc173 : Sc Try.prog 173 := ⟨fun _ => by kernel_rfl, fun _ => by kernel_rfl⟩
theorem ze173 : Ze Try.prog 173 [.slice none 0 0] := ⟨.slice none 0 0, rfl, fun _ => by kernel_rfl⟩
theorem ag174 : Ag Try.prog 174 8 := ⟨fun _ => by kernel_rfl, fun _ => by kernel_rfl⟩
theorem fa174_0 : Fa Try.prog 174 0 0 := fun _ _ _ => by kernel_rfl
theorem fa174_1 : Fa Try.prog 174 1 1 := fun _ _ _ => by kernel_rfl
theorem fa174_2 : Fa Try.prog 174 2 2 := fun _ _ _ => by kernel_rfl
theorem fa174_3 : Fa Try.prog 174 3 6 := fun _ _ _ => by kernel_rfl
theorem fa174_4 : Fa Try.prog 174 4 7 := fun _ _ _ => by kernel_rfl
theorem ze174 : Ze Try.prog 174 [.int .i64 0, .int .u64 0, .slice none 0 0, .slice none 0 0, .slice none 0 0, .slice none 0 0, .slice none 0 0, .int .i64 0] := ⟨.agg #[.int .i64 0, .int .u64 0, .slice none 0 0, .slice none 0 0, .slice none 0 0, .slice none 0 0, .slice none 0 0, .int .i64 0], rfl, fun _ => by kernel_rfl⟩
theorem ag175 : Ag Try.prog 175 8 := ⟨fun _ => by kernel_rfl, fun _ => by kernel_rfl⟩
theorem fa175_0 : Fa Try.prog 175 0 0 := fun _ _ _ => by kernel_rfl
theorem fa175_1 : Fa Try.prog 175 1 1 := fun _ _ _ => by kernel_rfl
theorem fa175_2 : Fa Try.prog 175 2 2 := fun _ _ _ => by kernel_rfl
theorem fa175_3 : Fa Try.prog 175 3 6 := fun _ _ _ => by kernel_rfl
theorem fa175_4 : Fa Try.prog 175 4 7 := fun _ _ _ => by kernel_rfl
theorem ze175 : Ze Try.prog 175 [.int .i64 0, .int .u64 0, .slice none 0 0, .slice none 0 0, .slice none 0 0, .slice none 0 0, .slice none 0 0, .int .i64 0] := ⟨.agg #[.int .i64 0, .int .u64 0, .slice none 0 0, .slice none 0 0, .slice none 0 0, .slice none 0 0, .slice none 0 0, .int .i64 0], rfl, fun _ => by kernel_rfl⟩
theorem sc176 : Sc Try.prog 176 := ⟨fun _ => by kernel_rfl, fun _ => by kernel_rfl⟩
theorem ze176 : Ze Try.prog 176 [.nilFunc] := ⟨.nilFunc, rfl, fun _ => by kernel_rfl⟩
theorem sc177 : Sc Try.prog 177 := ⟨fun _ => by kernel_rfl, fun _ => by kernel_rfl⟩
theorem ze177 : Ze Try.prog 177 [.nilFunc] := ⟨.nilFunc, rfl, fun _ => by kernel_rfl⟩
theorem sc178 : Sc Try.prog 178 := ⟨fun _ => by kernel_rfl, fun _ => by kernel_rfl⟩
theorem ze178 : Ze Try.prog 178 [.nilFunc] := ⟨.nilFunc, rfl, fun _ => by kernel_rfl⟩
theorem sc179 : Sc Try.prog 179 := ⟨fun _ => by kernel_rfl, fun _ => by kernel_rfl⟩
theorem ze179 : Ze Try.prog 179 [.pointer none] := ⟨.pointer none, rfl, fun _ => by kernel_rfl⟩
theorem sc180 : Sc Try.prog 180 := ⟨fun _ => by kernel_rfl, fun _ => by kernel_rfl⟩
theorem ze180 : Ze Try.prog 180 [.nilFunc] := ⟨.nilFunc, rfl, fun _ => by kernel_rfl⟩
theorem sc181 : Sc Try.prog 181 := ⟨fun _ => by kernel_rfl, fun _ => by kernel_rfl⟩
theorem ze181 : Ze Try.prog 181 [.nilFunc] := ⟨.nilFunc, rfl, fun _ => by kernel_rfl⟩
theorem sc182 : Sc Try.prog 182 := ⟨fun _ => by kernel_rfl, fun _ => by kernel_rfl⟩
theorem ze182 : Ze Try.prog 182 [.nilFunc] := ⟨.nilFunc, rfl, fun _ => by kernel_rfl⟩
theorem sc183 : Sc Try.prog 183 := ⟨fun _ => by kernel_rfl, fun _ => by kernel_rfl⟩
theorem ze183 : Ze Try.prog 183 [.nilFunc] := ⟨.nilFunc, rfl, fun _ => by kernel_rfl⟩
theorem sc184 : Sc Try.prog 184 := ⟨fun _ => by kernel_rfl, fun _ => by kernel_rfl⟩
theorem ze184 : Ze Try.prog 184 [.nilFunc] := ⟨.nilFunc, rfl, fun _ => by kernel_rfl⟩
theorem sc185 : Sc Try.prog 185 := ⟨fun _ => by kernel_rfl, fun _ => by kernel_rfl⟩
theorem ze185 : Ze Try.prog 185 [.pointer none] := ⟨.pointer none, rfl, fun _ => by kernel_rfl⟩
theorem sc186 : Sc Try.prog 186 := ⟨fun _ => by kernel_rfl, fun _ => by kernel_rfl⟩
theorem ze186 : Ze Try.prog 186 [.pointer none] := ⟨.pointer none, rfl, fun _ => by kernel_rfl⟩
theorem sc187 : Sc Try.prog 187 := ⟨fun _ => by kernel_rfl, fun _ => by kernel_rfl⟩
theorem ze187 : Ze Try.prog 187 [.nilFunc] := ⟨.nilFunc, rfl, fun _ => by kernel_rfl⟩
theorem sc188 : Sc Try.prog 188 := ⟨fun _ => by kernel_rfl, fun _ => by kernel_rfl⟩
theorem sc189 : Sc Try.prog 189 := ⟨fun _ => by kernel_rfl, fun _ => by kernel_rfl⟩
theorem ze189 : Ze Try.prog 189 [.nilFunc] := ⟨.nilFunc, rfl, fun _ => by kernel_rfl⟩
theorem sc190 : Sc Try.prog 190 := ⟨fun _ => by kernel_rfl, fun _ => by kernel_rfl⟩
theorem ze190 : Ze Try.prog 190 [.nilFunc] := ⟨.nilFunc, rfl, fun _ => by kernel_rfl⟩
theorem ag191 : Ag Try.prog 191 4 := ⟨fun _ => by kernel_rfl, fun _ => by kernel_rfl⟩
theorem fa191_0 : Fa Try.prog 191 0 0 := fun _ _ _ => by kernel_rfl
theorem fa191_1 : Fa Try.prog 191 1 1 := fun _ _ _ => by kernel_rfl
theorem fa191_2 : Fa Try.prog 191 2 2 := fun _ _ _ => by kernel_rfl
theorem fa191_3 : Fa Try.prog 191 3 3 := fun _ _ _ => by kernel_rfl
theorem ze191 : Ze Try.prog 191 [.pointer none, .pointer none, .pointer none, .string ⟨#[]⟩] := ⟨.agg #[.pointer none, .pointer none, .pointer none, .string ⟨#[]⟩], rfl, fun _ => by kernel_rfl⟩
theorem ag192 : Ag Try.prog 192 4 := ⟨fun _ => by kernel_rfl, fun _ => by kernel_rfl⟩
theorem fa192_0 : Fa Try.prog 192 0 0 := fun _ _ _ => by kernel_rfl
theorem fa192_1 : Fa Try.prog 192 1 1 := fun _ _ _ => by kernel_rfl
theorem fa192_2 : Fa Try.prog 192 2 2 := fun _ _ _ => by kernel_rfl
theorem fa192_3 : Fa Try.prog 192 3 3 := fun _ _ _ => by kernel_rfl
theorem ze192 : Ze Try.prog 192 [.pointer none, .pointer none, .pointer none, .string ⟨#[]⟩] := ⟨.agg #[.pointer none, .pointer none, .pointer none, .string ⟨#[]⟩], rfl, fun _ => by kernel_rfl⟩
theorem ag193 : Ag Try.prog 193 0 := ⟨fun _ => by kernel_rfl, fun _ => by kernel_rfl⟩
theorem ze193 : Ze Try.prog 193 [] := ⟨.agg #[], rfl, fun _ => by kernel_rfl⟩
theorem ag194 : Ag Try.prog 194 0 := ⟨fun _ => by kernel_rfl, fun _ => by kernel_rfl⟩
theorem ze194 : Ze Try.prog 194 [] := ⟨.agg #[], rfl, fun _ => by kernel_rfl⟩
theorem ag195 : Ag Try.prog 195 0 := ⟨fun _ => by kernel_rfl, fun _ => by kernel_rfl⟩
theorem ze195 : Ze Try.prog 195 [] := ⟨.agg #[], rfl, fun _ => by kernel_rfl⟩
theorem sc196 : Sc Try.prog 196 := ⟨fun _ => by kernel_rfl, fun _ => by kernel_rfl⟩
theorem ze196 : Ze Try.prog 196 [.int .u8 0] := ⟨.int .u8 0, rfl, fun _ => by kernel_rfl⟩
theorem sc197 : Sc Try.prog 197 := ⟨fun _ => by kernel_rfl, fun _ => by kernel_rfl⟩
theorem ze197 : Ze Try.prog 197 [.int .u8 0] := ⟨.int .u8 0, rfl, fun _ => by kernel_rfl⟩
theorem sc198 : Sc Try.prog 198 := ⟨fun _ => by kernel_rfl, fun _ => by kernel_rfl⟩
theorem ze198 : Ze Try.prog 198 [.nilFunc] := ⟨.nilFunc, rfl, fun _ => by kernel_rfl⟩
theorem sc199 : Sc Try.prog 199 := ⟨fun _ => by kernel_rfl, fun _ => by kernel_rfl⟩
theorem ze199 : Ze Try.prog 199 [.int .i32 0] := ⟨.int .i32 0, rfl, fun _ => by kernel_rfl⟩
theorem sc200 : Sc Try.prog 200 := ⟨fun _ => by kernel_rfl, fun _ => by kernel_rfl⟩
theorem ze200 : Ze Try.prog 200 [.int .i32 0] := ⟨.int .i32 0, rfl, fun _ => by kernel_rfl⟩
theorem ag201 : Ag Try.prog 201 11 := ⟨fun _ => by kernel_rfl, fun _ => by kernel_rfl⟩
theorem fa201_0 : Fa Try.prog 201 0 0 := fun _ _ _ => by kernel_rfl
theorem fa201_1 : Fa Try.prog 201 1 1 := fun _ _ _ => by kernel_rfl
theorem fa201_2 : Fa Try.prog 201 2 2 := fun _ _ _ => by kernel_rfl
theorem fa201_3 : Fa Try.prog 201 3 3 := fun _ _ _ => by kernel_rfl
theorem fa201_4 : Fa Try.prog 201 4 4 := fun _ _ _ => by kernel_rfl
theorem fa201_5 : Fa Try.prog 201 5 5 := fun _ _ _ => by kernel_rfl
theorem fa201_6 : Fa Try.prog 201 6 6 := fun _ _ _ => by kernel_rfl
theorem fa201_7 : Fa Try.prog 201 7 7 := fun _ _ _ => by kernel_rfl
theorem fa201_8 : Fa Try.prog 201 8 8 := fun _ _ _ => by kernel_rfl
theorem fa201_9 : Fa Try.prog 201 9 9 := fun _ _ _ => by kernel_rfl
theorem fa201_10 : Fa Try.prog 201 10 10 := fun _ _ _ => by kernel_rfl
theorem ze201 : Ze Try.prog 201 [.int .u64 0, .int .u64 0, .int .u32 0, .int .u8 0, .int .u8 0, .int .u8 0, .int .u8 0, .nilFunc, .pointer none, .int .i32 0, .int .i32 0] := ⟨.agg #[.int .u64 0, .int .u64 0, .int .u32 0, .int .u8 0, .int .u8 0, .int .u8 0, .int .u8 0, .nilFunc, .pointer none, .int .i32 0, .int .i32 0], rfl, fun _ => by kernel_rfl⟩
theorem ag202 : Ag Try.prog 202 11 := ⟨fun _ => by kernel_rfl, fun _ => by kernel_rfl⟩
theorem fa202_0 : Fa Try.prog 202 0 0 := fun _ _ _ => by kernel_rfl
theorem fa202_1 : Fa Try.prog 202 1 1 := fun _ _ _ => by kernel_rfl
theorem fa202_2 : Fa Try.prog 202 2 2 := fun _ _ _ => by kernel_rfl
theorem fa202_3 : Fa Try.prog 202 3 3 := fun _ _ _ => by kernel_rfl
theorem fa202_4 : Fa Try.prog 202 4 4 := fun _ _ _ => by kernel_rfl
theorem fa202_5 : Fa Try.prog 202 5 5 := fun _ _ _ => by kernel_rfl
theorem fa202_6 : Fa Try.prog 202 6 6 := fun _ _ _ => by kernel_rfl
theorem fa202_7 : Fa Try.prog 202 7 7 := fun _ _ _ => by kernel_rfl
theorem fa202_8 : Fa Try.prog 202 8 8 := fun _ _ _ => by kernel_rfl
theorem fa202_9 : Fa Try.prog 202 9 9 := fun _ _ _ => by kernel_rfl
theorem fa202_10 : Fa Try.prog 202 10 10 := fun _ _ _ => by kernel_rfl
theorem ze202 : Ze Try.prog 202 [.int .u64 0, .int .u64 0, .int .u32 0, .int .u8 0, .int .u8 0, .int .u8 0, .int .u8 0, .nilFunc, .pointer none, .int .i32 0, .int .i32 0] := ⟨.agg #[.int .u64 0, .int .u64 0, .int .u32 0, .int .u8 0, .int .u8 0, .int .u8 0, .int .u8 0, .nilFunc, .pointer none, .int .i32 0, .int .i32 0], rfl, fun _ => by kernel_rfl⟩
theorem ca3 : Ca Try.prog 3 := fun _ _ => by kernel_rfl
theorem ca4 : Ca Try.prog 4 := fun _ _ => by kernel_rfl
theorem ca5 : Ca Try.prog 5 := fun _ _ => by kernel_rfl
theorem ca6 : Ca Try.prog 6 := fun _ _ => by kernel_rfl
theorem ca7 : Ca Try.prog 7 := fun _ _ => by kernel_rfl
theorem ca8 : Ca Try.prog 8 := fun _ _ => by kernel_rfl
theorem ca9 : Ca Try.prog 9 := fun _ _ => by kernel_rfl
theorem ca10 : Ca Try.prog 10 := fun _ _ => by kernel_rfl
theorem ca11 : Ca Try.prog 11 := fun _ _ => by kernel_rfl
theorem ca12 : Ca Try.prog 12 := fun _ _ => by kernel_rfl
theorem ca13 : Ca Try.prog 13 := fun _ _ => by kernel_rfl
theorem ca14 : Ca Try.prog 14 := fun _ _ => by kernel_rfl
theorem ca15 : Ca Try.prog 15 := fun _ _ => by kernel_rfl
theorem ca16 : Ca Try.prog 16 := fun _ _ => by kernel_rfl
theorem ca17 : Ca Try.prog 17 := fun _ _ => by kernel_rfl
theorem ca18 : Ca Try.prog 18 := fun _ _ => by kernel_rfl
theorem ca19 : Ca Try.prog 19 := fun _ _ => by kernel_rfl
theorem ca20 : Ca Try.prog 20 := fun _ _ => by kernel_rfl
theorem ca21 : Ca Try.prog 21 := fun _ _ => by kernel_rfl
theorem ca22 : Ca Try.prog 22 := fun _ _ => by kernel_rfl
theorem ca23 : Ca Try.prog 23 := fun _ _ => by kernel_rfl
theorem ca24 : Ca Try.prog 24 := fun _ _ => by kernel_rfl
theorem ca25 : Ca Try.prog 25 := fun _ _ => by kernel_rfl
theorem ca26 : Ca Try.prog 26 := fun _ _ => by kernel_rfl
theorem ca27 : Ca Try.prog 27 := fun _ _ => by kernel_rfl
theorem ca28 : Ca Try.prog 28 := fun _ _ => by kernel_rfl
theorem ca29 : Ca Try.prog 29 := fun _ _ => by kernel_rfl
theorem ca30 : Ca Try.prog 30 := fun _ _ => by kernel_rfl
theorem ca31 : Ca Try.prog 31 := fun _ _ => by kernel_rfl
theorem ca32 : Ca Try.prog 32 := fun _ _ => by kernel_rfl
theorem ca33 : Ca Try.prog 33 := fun _ _ => by kernel_rfl
theorem ca34 : Ca Try.prog 34 := fun _ _ => by kernel_rfl
theorem ca35 : Ca Try.prog 35 := fun _ _ => by kernel_rfl
theorem ca36 : Ca Try.prog 36 := fun _ _ => by kernel_rfl
theorem ca37 : Ca Try.prog 37 := fun _ _ => by kernel_rfl
theorem ca38 : Ca Try.prog 38 := fun _ _ => by kernel_rfl
theorem ca39 : Ca Try.prog 39 := fun _ _ => by kernel_rfl
theorem ca40 : Ca Try.prog 40 := fun _ _ => by kernel_rfl
theorem ca41 : Ca Try.prog 41 := fun _ _ => by kernel_rfl
theorem ca42 : Ca Try.prog 42 := fun _ _ => by kernel_rfl
theorem ca43 : Ca Try.prog 43 := fun _ _ => by kernel_rfl
theorem ca44 : Ca Try.prog 44 := fun _ _ => by kernel_rfl
theorem ca45 : Ca Try.prog 45 := fun _ _ => by kernel_rfl
theorem ca46 : Ca Try.prog 46 := fun _ _ => by kernel_rfl
theorem ca47 : Ca Try.prog 47 := fun _ _ => by kernel_rfl
theorem ca48 : Ca Try.prog 48 := fun _ _ => by kernel_rfl
theorem ca49 : Ca Try.prog 49 := fun _ _ => by kernel_rfl
theorem ca50 : Ca Try.prog 50 := fun _ _ => by kernel_rfl
theorem ca51 : Ca Try.prog 51 := fun _ _ => by kernel_rfl
theorem ca52 : Ca Try.prog 52 := fun _ _ => by kernel_rfl
theorem ca53 : Ca Try.prog 53 := fun _ _ => by kernel_rfl
theorem ca54 : Ca Try.prog 54 := fun _ _ => by kernel_rfl
theorem ca55 : Ca Try.prog 55 := fun _ _ => by kernel_rfl
theorem ca56 : Ca Try.prog 56 := fun _ _ => by kernel_rfl
theorem ca57 : Ca Try.prog 57 := fun _ _ => by kernel_rfl
theorem ca58 : Ca Try.prog 58 := fun _ _ => by kernel_rfl
theorem ca59 : Ca Try.prog 59 := fun _ _ => by kernel_rfl
theorem ca60 : Ca Try.prog 60 := fun _ _ => by kernel_rfl
theorem ca61 : Ca Try.prog 61 := fun _ _ => by kernel_rfl
theorem ca62 : Ca Try.prog 62 := fun _ _ => by kernel_rfl
theorem ca63 : Ca Try.prog 63 := fun _ _ => by kernel_rfl
theorem ca64 : Ca Try.prog 64 := fun _ _ => by kernel_rfl
theorem ca65 : Ca Try.prog 65 := fun _ _ => by kernel_rfl
theorem ca66 : Ca Try.prog 66 := fun _ _ => by kernel_rfl
theorem ca67 : Ca Try.prog 67 := fun _ _ => by kernel_rfl
theorem ca68 : Ca Try.prog 68 := fun _ _ => by kernel_rfl
theorem ca69 : Ca Try.prog 69 := fun _ _ => by kernel_rfl
theorem ca70 : Ca Try.prog 70 := fun _ _ => by kernel_rfl
theorem ca71 : Ca Try.prog 71 := fun _ _ => by kernel_rfl
theorem ca72 : Ca Try.prog 72 := fun _ _ => by kernel_rfl
theorem ca73 : Ca Try.prog 73 := fun _ _ => by kernel_rfl
theorem ca74 : Ca Try.prog 74 := fun _ _ => by kernel_rfl
theorem ca75 : Ca Try.prog 75 := fun _ _ => by kernel_rfl
theorem ca76 : Ca Try.prog 76 := fun _ _ => by kernel_rfl
theorem ca77 : Ca Try.prog 77 := fun _ _ => by kernel_rfl
theorem ca78 : Ca Try.prog 78 := fun _ _ => by kernel_rfl
theorem ca79 : Ca Try.prog 79 := fun _ _ => by kernel_rfl
theorem ca80 : Ca Try.prog 80 := fun _ _ => by kernel_rfl
theorem ca81 : Ca Try.prog 81 := fun _ _ => by kernel_rfl
theorem ca82 : Ca Try.prog 82 := fun _ _ => by kernel_rfl
theorem ca83 : Ca Try.prog 83 := fun _ _ => by kernel_rfl
theorem ca84 : Ca Try.prog 84 := fun _ _ => by kernel_rfl
theorem ca85 : Ca Try.prog 85 := fun _ _ => by kernel_rfl
theorem ca86 : Ca Try.prog 86 := fun _ _ => by kernel_rfl
theorem ca87 : Ca Try.prog 87 := fun _ _ => by kernel_rfl
theorem ca88 : Ca Try.prog 88 := fun _ _ => by kernel_rfl
theorem ca89 : Ca Try.prog 89 := fun _ _ => by kernel_rfl
theorem ca90 : Ca Try.prog 90 := fun _ _ => by kernel_rfl
theorem ca91 : Ca Try.prog 91 := fun _ _ => by kernel_rfl
theorem ca92 : Ca Try.prog 92 := fun _ _ => by kernel_rfl
theorem ca93 : Ca Try.prog 93 := fun _ _ => by kernel_rfl
theorem ca94 : Ca Try.prog 94 := fun _ _ => by kernel_rfl
theorem ca95 : Ca Try.prog 95 := fun _ _ => by kernel_rfl
theorem ca96 : Ca Try.prog 96 := fun _ _ => by kernel_rfl
theorem ca97 : Ca Try.prog 97 := fun _ _ => by kernel_rfl
theorem ca98 : Ca Try.prog 98 := fun _ _ => by kernel_rfl
theorem ca99 : Ca Try.prog 99 := fun _ _ => by kernel_rfl
theorem ca100 : Ca Try.prog 100 := fun _ _ => by kernel_rfl
theorem ca101 : Ca Try.prog 101 := fun _ _ => by kernel_rfl
theorem ca102 : Ca Try.prog 102 := fun _ _ => by kernel_rfl
theorem ca103 : Ca Try.prog 103 := fun _ _ => by kernel_rfl
theorem ca104 : Ca Try.prog 104 := fun _ _ => by kernel_rfl
theorem ca105 : Ca Try.prog 105 := fun _ _ => by kernel_rfl
theorem ca106 : Ca Try.prog 106 := fun _ _ => by kernel_rfl
theorem ca107 : Ca Try.prog 107 := fun _ _ => by kernel_rfl
theorem ca108 : Ca Try.prog 108 := fun _ _ => by kernel_rfl
theorem ca109 : Ca Try.prog 109 := fun _ _ => by kernel_rfl
theorem ca110 : Ca Try.prog 110 := fun _ _ => by kernel_rfl
theorem ca111 : Ca Try.prog 111 := fun _ _ => by kernel_rfl
theorem ca112 : Ca Try.prog 112 := fun _ _ => by kernel_rfl
theorem ca113 : Ca Try.prog 113 := fun _ _ => by kernel_rfl
theorem ca114 : Ca Try.prog 114 := fun _ _ => by kernel_rfl
theorem ca115 : Ca Try.prog 115 := fun _ _ => by kernel_rfl
theorem ca116 : Ca Try.prog 116 := fun _ _ => by kernel_rfl
theorem ca117 : Ca Try.prog 117 := fun _ _ => by kernel_rfl
theorem ca118 : Ca Try.prog 118 := fun _ _ => by kernel_rfl
theorem ca119 : Ca Try.prog 119 := fun _ _ => by kernel_rfl
theorem ca120 : Ca Try.prog 120 := fun _ _ => by kernel_rfl
theorem ca121 : Ca Try.prog 121 := fun _ _ => by kernel_rfl
theorem ca122 : Ca Try.prog 122 := fun _ _ => by kernel_rfl
theorem ca123 : Ca Try.prog 123 := fun _ _ => by kernel_rfl
theorem ca124 : Ca Try.prog 124 := fun _ _ => by kernel_rfl
theorem ca125 : Ca Try.prog 125 := fun _ _ => by kernel_rfl
theorem ca126 : Ca Try.prog 126 := fun _ _ => by kernel_rfl
theorem ca127 : Ca Try.prog 127 := fun _ _ => by kernel_rfl
theorem ca128 : Ca Try.prog 128 := fun _ _ => by kernel_rfl
theorem ca129 : Ca Try.prog 129 := fun _ _ => by kernel_rfl
theorem ca131 : Ca Try.prog 131 := fun _ _ => by kernel_rfl
theorem ca132 : Ca Try.prog 132 := fun _ _ => by kernel_rfl
theorem ca133 : Ca Try.prog 133 := fun _ _ => by kernel_rfl
theorem ca134 : Ca Try.prog 134 := fun _ _ => by kernel_rfl
theorem mixed : Try.prog.follows .mixedOrders = true := by kernel_rfl
end Go.Proofs.Ythngfieikhillaa
