/-
  Facts on the types and functions of this seat's program, by a program of this session's.
-/
import Derived.Test.YtbldbopiofinbaaProg
import Derived.Test.YtbldbopiofinbaaHwC
import Derived.KernelRfl
set_option linter.unusedSimpArgs false
namespace Go.Proofs.Ytbldbopiofinbaa
open Go Go.Proofs.Ytbldbopiofinbaa.Hw
theorem sc0 : Sc Try.prog 0 := ⟨fun _ => by kernel_rfl, fun _ => by kernel_rfl⟩
theorem sc1 : Sc Try.prog 1 := ⟨fun _ => by kernel_rfl, fun _ => by kernel_rfl⟩
theorem ze1 : Ze Try.prog 1 [.nilFunc] := ⟨.nilFunc, rfl, fun _ => by kernel_rfl⟩
theorem sc2 : Sc Try.prog 2 := ⟨fun _ => by kernel_rfl, fun _ => by kernel_rfl⟩
theorem ze2 : Ze Try.prog 2 [.int .i64 0] := ⟨.int .i64 0, rfl, fun _ => by kernel_rfl⟩
theorem sc3 : Sc Try.prog 3 := ⟨fun _ => by kernel_rfl, fun _ => by kernel_rfl⟩
theorem ze3 : Ze Try.prog 3 [.int .i64 0] := ⟨.int .i64 0, rfl, fun _ => by kernel_rfl⟩
theorem sc4 : Sc Try.prog 4 := ⟨fun _ => by kernel_rfl, fun _ => by kernel_rfl⟩
theorem ze4 : Ze Try.prog 4 [.bool false] := ⟨.bool false, rfl, fun _ => by kernel_rfl⟩
theorem sc5 : Sc Try.prog 5 := ⟨fun _ => by kernel_rfl, fun _ => by kernel_rfl⟩
theorem ze5 : Ze Try.prog 5 [.int .u8 0] := ⟨.int .u8 0, rfl, fun _ => by kernel_rfl⟩
theorem sc6 : Sc Try.prog 6 := ⟨fun _ => by kernel_rfl, fun _ => by kernel_rfl⟩
theorem ze6 : Ze Try.prog 6 [.int .u8 0] := ⟨.int .u8 0, rfl, fun _ => by kernel_rfl⟩
theorem ag7 : Ag Try.prog 7 4 := ⟨fun _ => by kernel_rfl, fun _ => by kernel_rfl⟩
theorem fa7_0 : Fa Try.prog 7 0 0 := fun _ _ _ => by kernel_rfl
theorem fa7_1 : Fa Try.prog 7 1 1 := fun _ _ _ => by kernel_rfl
theorem fa7_2 : Fa Try.prog 7 2 2 := fun _ _ _ => by kernel_rfl
theorem fa7_3 : Fa Try.prog 7 3 3 := fun _ _ _ => by kernel_rfl
theorem ze7 : Ze Try.prog 7 [.int .i64 0, .int .i64 0, .bool false, .int .u8 0] := ⟨.agg #[.int .i64 0, .int .i64 0, .bool false, .int .u8 0], rfl, fun _ => by kernel_rfl⟩
theorem ag8 : Ag Try.prog 8 4 := ⟨fun _ => by kernel_rfl, fun _ => by kernel_rfl⟩
theorem fa8_0 : Fa Try.prog 8 0 0 := fun _ _ _ => by kernel_rfl
theorem fa8_1 : Fa Try.prog 8 1 1 := fun _ _ _ => by kernel_rfl
theorem fa8_2 : Fa Try.prog 8 2 2 := fun _ _ _ => by kernel_rfl
theorem fa8_3 : Fa Try.prog 8 3 3 := fun _ _ _ => by kernel_rfl
theorem ze8 : Ze Try.prog 8 [.int .i64 0, .int .i64 0, .bool false, .int .u8 0] := ⟨.agg #[.int .i64 0, .int .i64 0, .bool false, .int .u8 0], rfl, fun _ => by kernel_rfl⟩
theorem sc9 : Sc Try.prog 9 := ⟨fun _ => by kernel_rfl, fun _ => by kernel_rfl⟩
theorem ze9 : Ze Try.prog 9 [.string ⟨#[]⟩] := ⟨.string ⟨#[]⟩, rfl, fun _ => by kernel_rfl⟩
theorem sc10 : Sc Try.prog 10 := ⟨fun _ => by kernel_rfl, fun _ => by kernel_rfl⟩
theorem ze10 : Ze Try.prog 10 [.string ⟨#[]⟩] := ⟨.string ⟨#[]⟩, rfl, fun _ => by kernel_rfl⟩
theorem sc11 : Sc Try.prog 11 := ⟨fun _ => by kernel_rfl, fun _ => by kernel_rfl⟩
theorem ze11 : Ze Try.prog 11 [.string ⟨#[]⟩] := ⟨.string ⟨#[]⟩, rfl, fun _ => by kernel_rfl⟩
theorem sc12 : Sc Try.prog 12 := ⟨fun _ => by kernel_rfl, fun _ => by kernel_rfl⟩
theorem ze12 : Ze Try.prog 12 [.int .u64 0] := ⟨.int .u64 0, rfl, fun _ => by kernel_rfl⟩
theorem ag13 : Ag Try.prog 13 2 := ⟨fun _ => by kernel_rfl, fun _ => by kernel_rfl⟩
theorem fa13_0 : Fa Try.prog 13 0 0 := fun _ _ _ => by kernel_rfl
theorem fa13_1 : Fa Try.prog 13 1 1 := fun _ _ _ => by kernel_rfl
theorem ze13 : Ze Try.prog 13 [.string ⟨#[]⟩, .int .u64 0] := ⟨.agg #[.string ⟨#[]⟩, .int .u64 0], rfl, fun _ => by kernel_rfl⟩
theorem ag14 : Ag Try.prog 14 2 := ⟨fun _ => by kernel_rfl, fun _ => by kernel_rfl⟩
theorem fa14_0 : Fa Try.prog 14 0 0 := fun _ _ _ => by kernel_rfl
theorem fa14_1 : Fa Try.prog 14 1 1 := fun _ _ _ => by kernel_rfl
theorem ze14 : Ze Try.prog 14 [.string ⟨#[]⟩, .int .u64 0] := ⟨.agg #[.string ⟨#[]⟩, .int .u64 0], rfl, fun _ => by kernel_rfl⟩
theorem sc15 : Sc Try.prog 15 := ⟨fun _ => by kernel_rfl, fun _ => by kernel_rfl⟩
theorem ze15 : Ze Try.prog 15 [.pointer none] := ⟨.pointer none, rfl, fun _ => by kernel_rfl⟩
theorem sc16 : Sc Try.prog 16 := ⟨fun _ => by kernel_rfl, fun _ => by kernel_rfl⟩
theorem ze16 : Ze Try.prog 16 [.pointer none] := ⟨.pointer none, rfl, fun _ => by kernel_rfl⟩
theorem sc17 : Sc Try.prog 17 := ⟨fun _ => by kernel_rfl, fun _ => by kernel_rfl⟩
theorem ze17 : Ze Try.prog 17 [.pointer none] := ⟨.pointer none, rfl, fun _ => by kernel_rfl⟩
theorem ag18 : Ag Try.prog 18 1 := ⟨fun _ => by kernel_rfl, fun _ => by kernel_rfl⟩
theorem fa18_0 : Fa Try.prog 18 0 0 := fun _ _ _ => by kernel_rfl
theorem ze18 : Ze Try.prog 18 [.pointer none] := ⟨.agg #[.pointer none], rfl, fun _ => by kernel_rfl⟩
theorem ag19 : Ag Try.prog 19 1 := ⟨fun _ => by kernel_rfl, fun _ => by kernel_rfl⟩
theorem fa19_0 : Fa Try.prog 19 0 0 := fun _ _ _ => by kernel_rfl
theorem ze19 : Ze Try.prog 19 [.pointer none] := ⟨.agg #[.pointer none], rfl, fun _ => by kernel_rfl⟩
theorem sc20 : Sc Try.prog 20 := ⟨fun _ => by kernel_rfl, fun _ => by kernel_rfl⟩
theorem ze20 : Ze Try.prog 20 [.nilIface] := ⟨.nilIface, rfl, fun _ => by kernel_rfl⟩
theorem sc21 : Sc Try.prog 21 := ⟨fun _ => by kernel_rfl, fun _ => by kernel_rfl⟩
theorem ze21 : Ze Try.prog 21 [.int .i32 0] := ⟨.int .i32 0, rfl, fun _ => by kernel_rfl⟩
theorem sc22 : Sc Try.prog 22 := ⟨fun _ => by kernel_rfl, fun _ => by kernel_rfl⟩
theorem ze22 : Ze Try.prog 22 [.slice none 0 0] := ⟨.slice none 0 0, rfl, fun _ => by kernel_rfl⟩
theorem sc23 : Sc Try.prog 23 := ⟨fun _ => by kernel_rfl, fun _ => by kernel_rfl⟩
theorem ze23 : Ze Try.prog 23 [.int .u64 0] := ⟨.int .u64 0, rfl, fun _ => by kernel_rfl⟩
theorem ag24 : Ag Try.prog 24 6 := ⟨fun _ => by kernel_rfl, fun _ => by kernel_rfl⟩
theorem fa24_0 : Fa Try.prog 24 0 0 := fun _ _ _ => by kernel_rfl
theorem fa24_1 : Fa Try.prog 24 1 1 := fun _ _ _ => by kernel_rfl
theorem fa24_2 : Fa Try.prog 24 2 2 := fun _ _ _ => by kernel_rfl
theorem fa24_3 : Fa Try.prog 24 3 3 := fun _ _ _ => by kernel_rfl
theorem fa24_4 : Fa Try.prog 24 4 4 := fun _ _ _ => by kernel_rfl
theorem fa24_5 : Fa Try.prog 24 5 5 := fun _ _ _ => by kernel_rfl
theorem ze24 : Ze Try.prog 24 [.int .u64 0, .int .i64 0, .int .u64 0, .int .i64 0, .int .u64 0, .int .u64 0] := ⟨.agg #[.int .u64 0, .int .i64 0, .int .u64 0, .int .i64 0, .int .u64 0, .int .u64 0], rfl, fun _ => by kernel_rfl⟩
theorem ag25 : Ag Try.prog 25 6 := ⟨fun _ => by kernel_rfl, fun _ => by kernel_rfl⟩
theorem fa25_0 : Fa Try.prog 25 0 0 := fun _ _ _ => by kernel_rfl
theorem fa25_1 : Fa Try.prog 25 1 1 := fun _ _ _ => by kernel_rfl
theorem fa25_2 : Fa Try.prog 25 2 2 := fun _ _ _ => by kernel_rfl
theorem fa25_3 : Fa Try.prog 25 3 3 := fun _ _ _ => by kernel_rfl
theorem fa25_4 : Fa Try.prog 25 4 4 := fun _ _ _ => by kernel_rfl
theorem fa25_5 : Fa Try.prog 25 5 5 := fun _ _ _ => by kernel_rfl
theorem ze25 : Ze Try.prog 25 [.int .u64 0, .int .i64 0, .int .u64 0, .int .i64 0, .int .u64 0, .int .u64 0] := ⟨.agg #[.int .u64 0, .int .i64 0, .int .u64 0, .int .i64 0, .int .u64 0, .int .u64 0], rfl, fun _ => by kernel_rfl⟩
theorem sc26 : Sc Try.prog 26 := ⟨fun _ => by kernel_rfl, fun _ => by kernel_rfl⟩
theorem ze26 : Ze Try.prog 26 [.pointer none] := ⟨.pointer none, rfl, fun _ => by kernel_rfl⟩
theorem sc27 : Sc Try.prog 27 := ⟨fun _ => by kernel_rfl, fun _ => by kernel_rfl⟩
theorem ze27 : Ze Try.prog 27 [.int .i64 0] := ⟨.int .i64 0, rfl, fun _ => by kernel_rfl⟩
theorem sc28 : Sc Try.prog 28 := ⟨fun _ => by kernel_rfl, fun _ => by kernel_rfl⟩
theorem sc29 : Sc Try.prog 29 := ⟨fun _ => by kernel_rfl, fun _ => by kernel_rfl⟩
theorem ze29 : Ze Try.prog 29 [.nilFunc] := ⟨.nilFunc, rfl, fun _ => by kernel_rfl⟩
theorem sc30 : Sc Try.prog 30 := ⟨fun _ => by kernel_rfl, fun _ => by kernel_rfl⟩
theorem ze30 : Ze Try.prog 30 [.nilFunc] := ⟨.nilFunc, rfl, fun _ => by kernel_rfl⟩
theorem sc31 : Sc Try.prog 31 := ⟨fun _ => by kernel_rfl, fun _ => by kernel_rfl⟩
theorem ze31 : Ze Try.prog 31 [.nilFunc] := ⟨.nilFunc, rfl, fun _ => by kernel_rfl⟩
theorem ag32 : Ag Try.prog 32 16 := ⟨fun _ => by kernel_rfl, fun _ => by kernel_rfl⟩
theorem fa32_0 : Fa Try.prog 32 0 0 := fun _ _ _ => by kernel_rfl
theorem fa32_1 : Fa Try.prog 32 1 1 := fun _ _ _ => by kernel_rfl
theorem fa32_2 : Fa Try.prog 32 2 2 := fun _ _ _ => by kernel_rfl
theorem fa32_3 : Fa Try.prog 32 3 3 := fun _ _ _ => by kernel_rfl
theorem fa32_4 : Fa Try.prog 32 4 4 := fun _ _ _ => by kernel_rfl
theorem fa32_5 : Fa Try.prog 32 5 10 := fun _ _ _ => by kernel_rfl
theorem ze32 : Ze Try.prog 32 [.bool false, .int .u64 0, .int .u64 0, .int .u64 0, .int .u64 0, .int .i64 0, .int .u64 0, .int .i64 0, .int .u64 0, .int .u64 0, .int .u64 0, .int .i64 0, .int .u64 0, .int .i64 0, .int .u64 0, .int .u64 0] := ⟨.agg #[.bool false, .int .u64 0, .int .u64 0, .int .u64 0, .int .u64 0, .int .i64 0, .int .u64 0, .int .i64 0, .int .u64 0, .int .u64 0, .int .u64 0, .int .i64 0, .int .u64 0, .int .i64 0, .int .u64 0, .int .u64 0], rfl, fun _ => by kernel_rfl⟩
theorem ag33 : Ag Try.prog 33 16 := ⟨fun _ => by kernel_rfl, fun _ => by kernel_rfl⟩
theorem fa33_0 : Fa Try.prog 33 0 0 := fun _ _ _ => by kernel_rfl
theorem fa33_1 : Fa Try.prog 33 1 1 := fun _ _ _ => by kernel_rfl
theorem fa33_2 : Fa Try.prog 33 2 2 := fun _ _ _ => by kernel_rfl
theorem fa33_3 : Fa Try.prog 33 3 3 := fun _ _ _ => by kernel_rfl
theorem fa33_4 : Fa Try.prog 33 4 4 := fun _ _ _ => by kernel_rfl
theorem fa33_5 : Fa Try.prog 33 5 10 := fun _ _ _ => by kernel_rfl
theorem ze33 : Ze Try.prog 33 [.bool false, .int .u64 0, .int .u64 0, .int .u64 0, .int .u64 0, .int .i64 0, .int .u64 0, .int .i64 0, .int .u64 0, .int .u64 0, .int .u64 0, .int .i64 0, .int .u64 0, .int .i64 0, .int .u64 0, .int .u64 0] := ⟨.agg #[.bool false, .int .u64 0, .int .u64 0, .int .u64 0, .int .u64 0, .int .i64 0, .int .u64 0, .int .i64 0, .int .u64 0, .int .u64 0, .int .u64 0, .int .i64 0, .int .u64 0, .int .i64 0, .int .u64 0, .int .u64 0], rfl, fun _ => by kernel_rfl⟩
theorem sc34 : Sc Try.prog 34 := ⟨fun _ => by kernel_rfl, fun _ => by kernel_rfl⟩
theorem ze34 : Ze Try.prog 34 [.nilFunc] := ⟨.nilFunc, rfl, fun _ => by kernel_rfl⟩
theorem sc35 : Sc Try.prog 35 := ⟨fun _ => by kernel_rfl, fun _ => by kernel_rfl⟩
theorem ze35 : Ze Try.prog 35 [.nilFunc] := ⟨.nilFunc, rfl, fun _ => by kernel_rfl⟩
theorem sc36 : Sc Try.prog 36 := ⟨fun _ => by kernel_rfl, fun _ => by kernel_rfl⟩
theorem ze36 : Ze Try.prog 36 [.nilFunc] := ⟨.nilFunc, rfl, fun _ => by kernel_rfl⟩
theorem sc37 : Sc Try.prog 37 := ⟨fun _ => by kernel_rfl, fun _ => by kernel_rfl⟩
theorem ze37 : Ze Try.prog 37 [.slice none 0 0] := ⟨.slice none 0 0, rfl, fun _ => by kernel_rfl⟩
theorem sc38 : Sc Try.prog 38 := ⟨fun _ => by kernel_rfl, fun _ => by kernel_rfl⟩
theorem ze38 : Ze Try.prog 38 [.nilFunc] := ⟨.nilFunc, rfl, fun _ => by kernel_rfl⟩
theorem sc39 : Sc Try.prog 39 := ⟨fun _ => by kernel_rfl, fun _ => by kernel_rfl⟩
theorem ze39 : Ze Try.prog 39 [.nilFunc] := ⟨.nilFunc, rfl, fun _ => by kernel_rfl⟩
theorem sc40 : Sc Try.prog 40 := ⟨fun _ => by kernel_rfl, fun _ => by kernel_rfl⟩
theorem ze40 : Ze Try.prog 40 [.nilFunc] := ⟨.nilFunc, rfl, fun _ => by kernel_rfl⟩
theorem ag41 : Ag Try.prog 41 14 := ⟨fun _ => by kernel_rfl, fun _ => by kernel_rfl⟩
theorem fa41_0 : Fa Try.prog 41 0 0 := fun _ _ _ => by kernel_rfl
theorem fa41_1 : Fa Try.prog 41 1 6 := fun _ _ _ => by kernel_rfl
theorem fa41_2 : Fa Try.prog 41 2 7 := fun _ _ _ => by kernel_rfl
theorem fa41_3 : Fa Try.prog 41 3 8 := fun _ _ _ => by kernel_rfl
theorem ze41 : Ze Try.prog 41 [.int .u64 0, .int .i64 0, .int .u64 0, .int .i64 0, .int .u64 0, .int .u64 0, .int .u64 0, .int .u64 0, .int .u64 0, .int .i64 0, .int .u64 0, .int .i64 0, .int .u64 0, .int .u64 0] := ⟨.agg #[.int .u64 0, .int .i64 0, .int .u64 0, .int .i64 0, .int .u64 0, .int .u64 0, .int .u64 0, .int .u64 0, .int .u64 0, .int .i64 0, .int .u64 0, .int .i64 0, .int .u64 0, .int .u64 0], rfl, fun _ => by kernel_rfl⟩
theorem ag42 : Ag Try.prog 42 14 := ⟨fun _ => by kernel_rfl, fun _ => by kernel_rfl⟩
theorem fa42_0 : Fa Try.prog 42 0 0 := fun _ _ _ => by kernel_rfl
theorem fa42_1 : Fa Try.prog 42 1 6 := fun _ _ _ => by kernel_rfl
theorem fa42_2 : Fa Try.prog 42 2 7 := fun _ _ _ => by kernel_rfl
theorem fa42_3 : Fa Try.prog 42 3 8 := fun _ _ _ => by kernel_rfl
theorem ze42 : Ze Try.prog 42 [.int .u64 0, .int .i64 0, .int .u64 0, .int .i64 0, .int .u64 0, .int .u64 0, .int .u64 0, .int .u64 0, .int .u64 0, .int .i64 0, .int .u64 0, .int .i64 0, .int .u64 0, .int .u64 0] := ⟨.agg #[.int .u64 0, .int .i64 0, .int .u64 0, .int .i64 0, .int .u64 0, .int .u64 0, .int .u64 0, .int .u64 0, .int .u64 0, .int .i64 0, .int .u64 0, .int .i64 0, .int .u64 0, .int .u64 0], rfl, fun _ => by kernel_rfl⟩
theorem sc43 : Sc Try.prog 43 := ⟨fun _ => by kernel_rfl, fun _ => by kernel_rfl⟩
theorem ze43 : Ze Try.prog 43 [.nilFunc] := ⟨.nilFunc, rfl, fun _ => by kernel_rfl⟩
theorem sc44 : Sc Try.prog 44 := ⟨fun _ => by kernel_rfl, fun _ => by kernel_rfl⟩
theorem ze44 : Ze Try.prog 44 [.nilFunc] := ⟨.nilFunc, rfl, fun _ => by kernel_rfl⟩
theorem sc45 : Sc Try.prog 45 := ⟨fun _ => by kernel_rfl, fun _ => by kernel_rfl⟩
theorem ze45 : Ze Try.prog 45 [.nilFunc] := ⟨.nilFunc, rfl, fun _ => by kernel_rfl⟩
theorem sc46 : Sc Try.prog 46 := ⟨fun _ => by kernel_rfl, fun _ => by kernel_rfl⟩
theorem ze46 : Ze Try.prog 46 [.pointer none] := ⟨.pointer none, rfl, fun _ => by kernel_rfl⟩
theorem sc47 : Sc Try.prog 47 := ⟨fun _ => by kernel_rfl, fun _ => by kernel_rfl⟩
theorem ze47 : Ze Try.prog 47 [.slice none 0 0] := ⟨.slice none 0 0, rfl, fun _ => by kernel_rfl⟩
theorem ag48 : Ag Try.prog 48 2 := ⟨fun _ => by kernel_rfl, fun _ => by kernel_rfl⟩
theorem fa48_0 : Fa Try.prog 48 0 0 := fun _ _ _ => by kernel_rfl
theorem fa48_1 : Fa Try.prog 48 1 1 := fun _ _ _ => by kernel_rfl
theorem ze48 : Ze Try.prog 48 [.pointer none, .slice none 0 0] := ⟨.agg #[.pointer none, .slice none 0 0], rfl, fun _ => by kernel_rfl⟩
theorem ag49 : Ag Try.prog 49 2 := ⟨fun _ => by kernel_rfl, fun _ => by kernel_rfl⟩
theorem fa49_0 : Fa Try.prog 49 0 0 := fun _ _ _ => by kernel_rfl
theorem fa49_1 : Fa Try.prog 49 1 1 := fun _ _ _ => by kernel_rfl
theorem ze49 : Ze Try.prog 49 [.pointer none, .slice none 0 0] := ⟨.agg #[.pointer none, .slice none 0 0], rfl, fun _ => by kernel_rfl⟩
theorem sc50 : Sc Try.prog 50 := ⟨fun _ => by kernel_rfl, fun _ => by kernel_rfl⟩
theorem ze50 : Ze Try.prog 50 [.nilIface] := ⟨.nilIface, rfl, fun _ => by kernel_rfl⟩
theorem sc51 : Sc Try.prog 51 := ⟨fun _ => by kernel_rfl, fun _ => by kernel_rfl⟩
theorem ze51 : Ze Try.prog 51 [.nilIface] := ⟨.nilIface, rfl, fun _ => by kernel_rfl⟩
theorem sc52 : Sc Try.prog 52 := ⟨fun _ => by kernel_rfl, fun _ => by kernel_rfl⟩
theorem ze52 : Ze Try.prog 52 [.nilFunc] := ⟨.nilFunc, rfl, fun _ => by kernel_rfl⟩
theorem sc53 : Sc Try.prog 53 := ⟨fun _ => by kernel_rfl, fun _ => by kernel_rfl⟩
theorem ze53 : Ze Try.prog 53 [.pointer none] := ⟨.pointer none, rfl, fun _ => by kernel_rfl⟩
theorem sc54 : Sc Try.prog 54 := ⟨fun _ => by kernel_rfl, fun _ => by kernel_rfl⟩
theorem ze54 : Ze Try.prog 54 [.pointer none] := ⟨.pointer none, rfl, fun _ => by kernel_rfl⟩
theorem sc55 : Sc Try.prog 55 := ⟨fun _ => by kernel_rfl, fun _ => by kernel_rfl⟩
theorem ze55 : Ze Try.prog 55 [.nilFunc] := ⟨.nilFunc, rfl, fun _ => by kernel_rfl⟩
theorem ag56 : Ag Try.prog 56 4 := ⟨fun _ => by kernel_rfl, fun _ => by kernel_rfl⟩
theorem fa56_0 : Fa Try.prog 56 0 0 := fun _ _ _ => by kernel_rfl
theorem fa56_1 : Fa Try.prog 56 1 1 := fun _ _ _ => by kernel_rfl
theorem fa56_2 : Fa Try.prog 56 2 2 := fun _ _ _ => by kernel_rfl
theorem fa56_3 : Fa Try.prog 56 3 3 := fun _ _ _ => by kernel_rfl
theorem ze56 : Ze Try.prog 56 [.pointer none, .pointer none, .pointer none, .string ⟨#[]⟩] := ⟨.agg #[.pointer none, .pointer none, .pointer none, .string ⟨#[]⟩], rfl, fun _ => by kernel_rfl⟩
theorem ag57 : Ag Try.prog 57 4 := ⟨fun _ => by kernel_rfl, fun _ => by kernel_rfl⟩
theorem fa57_0 : Fa Try.prog 57 0 0 := fun _ _ _ => by kernel_rfl
theorem fa57_1 : Fa Try.prog 57 1 1 := fun _ _ _ => by kernel_rfl
theorem fa57_2 : Fa Try.prog 57 2 2 := fun _ _ _ => by kernel_rfl
theorem fa57_3 : Fa Try.prog 57 3 3 := fun _ _ _ => by kernel_rfl
theorem ze57 : Ze Try.prog 57 [.pointer none, .pointer none, .pointer none, .string ⟨#[]⟩] := ⟨.agg #[.pointer none, .pointer none, .pointer none, .string ⟨#[]⟩], rfl, fun _ => by kernel_rfl⟩
theorem ag58 : Ag Try.prog 58 0 := ⟨fun _ => by kernel_rfl, fun _ => by kernel_rfl⟩
theorem ze58 : Ze Try.prog 58 [] := ⟨.agg #[], rfl, fun _ => by kernel_rfl⟩
theorem ag59 : Ag Try.prog 59 0 := ⟨fun _ => by kernel_rfl, fun _ => by kernel_rfl⟩
theorem ze59 : Ze Try.prog 59 [] := ⟨.agg #[], rfl, fun _ => by kernel_rfl⟩
theorem ag60 : Ag Try.prog 60 0 := ⟨fun _ => by kernel_rfl, fun _ => by kernel_rfl⟩
theorem ze60 : Ze Try.prog 60 [] := ⟨.agg #[], rfl, fun _ => by kernel_rfl⟩
theorem sc61 : Sc Try.prog 61 := ⟨fun _ => by kernel_rfl, fun _ => by kernel_rfl⟩
theorem ze61 : Ze Try.prog 61 [.nilFunc] := ⟨.nilFunc, rfl, fun _ => by kernel_rfl⟩
theorem sc62 : Sc Try.prog 62 := ⟨fun _ => by kernel_rfl, fun _ => by kernel_rfl⟩
theorem ze62 : Ze Try.prog 62 [.int .u32 0] := ⟨.int .u32 0, rfl, fun _ => by kernel_rfl⟩
theorem sc63 : Sc Try.prog 63 := ⟨fun _ => by kernel_rfl, fun _ => by kernel_rfl⟩
theorem ze63 : Ze Try.prog 63 [.int .u8 0] := ⟨.int .u8 0, rfl, fun _ => by kernel_rfl⟩
theorem sc64 : Sc Try.prog 64 := ⟨fun _ => by kernel_rfl, fun _ => by kernel_rfl⟩
theorem ze64 : Ze Try.prog 64 [.int .u8 0] := ⟨.int .u8 0, rfl, fun _ => by kernel_rfl⟩
theorem sc65 : Sc Try.prog 65 := ⟨fun _ => by kernel_rfl, fun _ => by kernel_rfl⟩
theorem ze65 : Ze Try.prog 65 [.nilFunc] := ⟨.nilFunc, rfl, fun _ => by kernel_rfl⟩
theorem sc66 : Sc Try.prog 66 := ⟨fun _ => by kernel_rfl, fun _ => by kernel_rfl⟩
theorem ze66 : Ze Try.prog 66 [.int .i32 0] := ⟨.int .i32 0, rfl, fun _ => by kernel_rfl⟩
theorem sc67 : Sc Try.prog 67 := ⟨fun _ => by kernel_rfl, fun _ => by kernel_rfl⟩
theorem ze67 : Ze Try.prog 67 [.int .i32 0] := ⟨.int .i32 0, rfl, fun _ => by kernel_rfl⟩
theorem ag68 : Ag Try.prog 68 11 := ⟨fun _ => by kernel_rfl, fun _ => by kernel_rfl⟩
theorem fa68_0 : Fa Try.prog 68 0 0 := fun _ _ _ => by kernel_rfl
theorem fa68_1 : Fa Try.prog 68 1 1 := fun _ _ _ => by kernel_rfl
theorem fa68_2 : Fa Try.prog 68 2 2 := fun _ _ _ => by kernel_rfl
theorem fa68_3 : Fa Try.prog 68 3 3 := fun _ _ _ => by kernel_rfl
theorem fa68_4 : Fa Try.prog 68 4 4 := fun _ _ _ => by kernel_rfl
theorem fa68_5 : Fa Try.prog 68 5 5 := fun _ _ _ => by kernel_rfl
theorem fa68_6 : Fa Try.prog 68 6 6 := fun _ _ _ => by kernel_rfl
theorem fa68_7 : Fa Try.prog 68 7 7 := fun _ _ _ => by kernel_rfl
theorem fa68_8 : Fa Try.prog 68 8 8 := fun _ _ _ => by kernel_rfl
theorem fa68_9 : Fa Try.prog 68 9 9 := fun _ _ _ => by kernel_rfl
theorem fa68_10 : Fa Try.prog 68 10 10 := fun _ _ _ => by kernel_rfl
theorem ze68 : Ze Try.prog 68 [.int .u64 0, .int .u64 0, .int .u32 0, .int .u8 0, .int .u8 0, .int .u8 0, .int .u8 0, .nilFunc, .pointer none, .int .i32 0, .int .i32 0] := ⟨.agg #[.int .u64 0, .int .u64 0, .int .u32 0, .int .u8 0, .int .u8 0, .int .u8 0, .int .u8 0, .nilFunc, .pointer none, .int .i32 0, .int .i32 0], rfl, fun _ => by kernel_rfl⟩
theorem ag69 : Ag Try.prog 69 11 := ⟨fun _ => by kernel_rfl, fun _ => by kernel_rfl⟩
theorem fa69_0 : Fa Try.prog 69 0 0 := fun _ _ _ => by kernel_rfl
theorem fa69_1 : Fa Try.prog 69 1 1 := fun _ _ _ => by kernel_rfl
theorem fa69_2 : Fa Try.prog 69 2 2 := fun _ _ _ => by kernel_rfl
theorem fa69_3 : Fa Try.prog 69 3 3 := fun _ _ _ => by kernel_rfl
theorem fa69_4 : Fa Try.prog 69 4 4 := fun _ _ _ => by kernel_rfl
theorem fa69_5 : Fa Try.prog 69 5 5 := fun _ _ _ => by kernel_rfl
theorem fa69_6 : Fa Try.prog 69 6 6 := fun _ _ _ => by kernel_rfl
theorem fa69_7 : Fa Try.prog 69 7 7 := fun _ _ _ => by kernel_rfl
theorem fa69_8 : Fa Try.prog 69 8 8 := fun _ _ _ => by kernel_rfl
theorem fa69_9 : Fa Try.prog 69 9 9 := fun _ _ _ => by kernel_rfl
theorem fa69_10 : Fa Try.prog 69 10 10 := fun _ _ _ => by kernel_rfl
theorem ze69 : Ze Try.prog 69 [.int .u64 0, .int .u64 0, .int .u32 0, .int .u8 0, .int .u8 0, .int .u8 0, .int .u8 0, .nilFunc, .pointer none, .int .i32 0, .int .i32 0] := ⟨.agg #[.int .u64 0, .int .u64 0, .int .u32 0, .int .u8 0, .int .u8 0, .int .u8 0, .int .u8 0, .nilFunc, .pointer none, .int .i32 0, .int .i32 0], rfl, fun _ => by kernel_rfl⟩
theorem ca3 : Ca Try.prog 3 := fun _ _ => by kernel_rfl
theorem ca4 : Ca Try.prog 4 := fun _ _ => by kernel_rfl
theorem ca5 : Ca Try.prog 5 := fun _ _ => by kernel_rfl
theorem ca6 : Ca Try.prog 6 := fun _ _ => by kernel_rfl
theorem ca7 : Ca Try.prog 7 := fun _ _ => by kernel_rfl
theorem ca8 : Ca Try.prog 8 := fun _ _ => by kernel_rfl
theorem ca9 : Ca Try.prog 9 := fun _ _ => by kernel_rfl
theorem ca10 : Ca Try.prog 10 := fun _ _ => by kernel_rfl
theorem ca11 : Ca Try.prog 11 := fun _ _ => by kernel_rfl
theorem ca12 : Ca Try.prog 12 := fun _ _ => by kernel_rfl
theorem ca13 : Ca Try.prog 13 := fun _ _ => by kernel_rfl
theorem ca14 : Ca Try.prog 14 := fun _ _ => by kernel_rfl
theorem ca15 : Ca Try.prog 15 := fun _ _ => by kernel_rfl
theorem ca16 : Ca Try.prog 16 := fun _ _ => by kernel_rfl
theorem ca17 : Ca Try.prog 17 := fun _ _ => by kernel_rfl
theorem ca18 : Ca Try.prog 18 := fun _ _ => by kernel_rfl
theorem ca19 : Ca Try.prog 19 := fun _ _ => by kernel_rfl
theorem ca20 : Ca Try.prog 20 := fun _ _ => by kernel_rfl
theorem ca21 : Ca Try.prog 21 := fun _ _ => by kernel_rfl
theorem mixed : Try.prog.follows .mixedOrders = true := by kernel_rfl
end Go.Proofs.Ytbldbopiofinbaa
