/-
  Facts on the types and functions of this seat's program, by a program of this session's.
-/
import Derived.Test.YtgnpffbgfmeinaaProg
import Derived.Test.YtgnpffbgfmeinaaHwC
import Derived.KernelRfl
set_option linter.unusedSimpArgs false
namespace Go.Proofs.Ytgnpffbgfmeinaa
open Go Go.Proofs.Ytgnpffbgfmeinaa.Hw
theorem sc0 : Sc Try.prog 0 := ⟨fun _ => by kernel_rfl, fun _ => by kernel_rfl⟩
theorem sc1 : Sc Try.prog 1 := ⟨fun _ => by kernel_rfl, fun _ => by kernel_rfl⟩
theorem ze1 : Ze Try.prog 1 [.nilFunc] := ⟨.nilFunc, rfl, fun _ => by kernel_rfl⟩
theorem sc2 : Sc Try.prog 2 := ⟨fun _ => by kernel_rfl, fun _ => by kernel_rfl⟩
theorem ze2 : Ze Try.prog 2 [.int .i64 0] := ⟨.int .i64 0, rfl, fun _ => by kernel_rfl⟩
theorem sc3 : Sc Try.prog 3 := ⟨fun _ => by kernel_rfl, fun _ => by kernel_rfl⟩
theorem ze3 : Ze Try.prog 3 [.int .i64 0] := ⟨.int .i64 0, rfl, fun _ => by kernel_rfl⟩
theorem sc4 : Sc Try.prog 4 := ⟨fun _ => by kernel_rfl, fun _ => by kernel_rfl⟩
theorem ze4 : Ze Try.prog 4 [.bool false] := ⟨.bool false, rfl, fun _ => by kernel_rfl⟩
theorem sc5 : Sc Try.prog 5 := ⟨fun _ => by kernel_rfl, fun _ => by kernel_rfl⟩
theorem ze5 : Ze Try.prog 5 [.int .u8 0] := ⟨.int .u8 0, rfl, fun _ => by kernel_rfl⟩
theorem sc6 : Sc Try.prog 6 := ⟨fun _ => by kernel_rfl, fun _ => by kernel_rfl⟩
theorem ze6 : Ze Try.prog 6 [.int .u8 0] := ⟨.int .u8 0, rfl, fun _ => by kernel_rfl⟩
theorem ag7 : Ag Try.prog 7 4 := ⟨fun _ => by kernel_rfl, fun _ => by kernel_rfl⟩
theorem fa7_0 : Fa Try.prog 7 0 0 := fun _ _ _ => by kernel_rfl
theorem fa7_1 : Fa Try.prog 7 1 1 := fun _ _ _ => by kernel_rfl
theorem fa7_2 : Fa Try.prog 7 2 2 := fun _ _ _ => by kernel_rfl
theorem fa7_3 : Fa Try.prog 7 3 3 := fun _ _ _ => by kernel_rfl
theorem ze7 : Ze Try.prog 7 [.int .i64 0, .int .i64 0, .bool false, .int .u8 0] := ⟨.agg #[.int .i64 0, .int .i64 0, .bool false, .int .u8 0], rfl, fun _ => by kernel_rfl⟩
theorem ag8 : Ag Try.prog 8 4 := ⟨fun _ => by kernel_rfl, fun _ => by kernel_rfl⟩
theorem fa8_0 : Fa Try.prog 8 0 0 := fun _ _ _ => by kernel_rfl
theorem fa8_1 : Fa Try.prog 8 1 1 := fun _ _ _ => by kernel_rfl
theorem fa8_2 : Fa Try.prog 8 2 2 := fun _ _ _ => by kernel_rfl
theorem fa8_3 : Fa Try.prog 8 3 3 := fun _ _ _ => by kernel_rfl
theorem ze8 : Ze Try.prog 8 [.int .i64 0, .int .i64 0, .bool false, .int .u8 0] := ⟨.agg #[.int .i64 0, .int .i64 0, .bool false, .int .u8 0], rfl, fun _ => by kernel_rfl⟩
theorem sc9 : Sc Try.prog 9 := ⟨fun _ => by kernel_rfl, fun _ => by kernel_rfl⟩
theorem ze9 : Ze Try.prog 9 [.string ⟨#[]⟩] := ⟨.string ⟨#[]⟩, rfl, fun _ => by kernel_rfl⟩
theorem sc10 : Sc Try.prog 10 := ⟨fun _ => by kernel_rfl, fun _ => by kernel_rfl⟩
theorem ze10 : Ze Try.prog 10 [.string ⟨#[]⟩] := ⟨.string ⟨#[]⟩, rfl, fun _ => by kernel_rfl⟩
theorem sc11 : Sc Try.prog 11 := ⟨fun _ => by kernel_rfl, fun _ => by kernel_rfl⟩
theorem ze11 : Ze Try.prog 11 [.string ⟨#[]⟩] := ⟨.string ⟨#[]⟩, rfl, fun _ => by kernel_rfl⟩
theorem sc12 : Sc Try.prog 12 := ⟨fun _ => by kernel_rfl, fun _ => by kernel_rfl⟩
theorem ze12 : Ze Try.prog 12 [.int .u64 0] := ⟨.int .u64 0, rfl, fun _ => by kernel_rfl⟩
theorem ag13 : Ag Try.prog 13 2 := ⟨fun _ => by kernel_rfl, fun _ => by kernel_rfl⟩
theorem fa13_0 : Fa Try.prog 13 0 0 := fun _ _ _ => by kernel_rfl
theorem fa13_1 : Fa Try.prog 13 1 1 := fun _ _ _ => by kernel_rfl
theorem ze13 : Ze Try.prog 13 [.string ⟨#[]⟩, .int .u64 0] := ⟨.agg #[.string ⟨#[]⟩, .int .u64 0], rfl, fun _ => by kernel_rfl⟩
theorem ag14 : Ag Try.prog 14 2 := ⟨fun _ => by kernel_rfl, fun _ => by kernel_rfl⟩
theorem fa14_0 : Fa Try.prog 14 0 0 := fun _ _ _ => by kernel_rfl
theorem fa14_1 : Fa Try.prog 14 1 1 := fun _ _ _ => by kernel_rfl
theorem ze14 : Ze Try.prog 14 [.string ⟨#[]⟩, .int .u64 0] := ⟨.agg #[.string ⟨#[]⟩, .int .u64 0], rfl, fun _ => by kernel_rfl⟩
theorem sc15 : Sc Try.prog 15 := ⟨fun _ => by kernel_rfl, fun _ => by kernel_rfl⟩
theorem ze15 : Ze Try.prog 15 [.pointer none] := ⟨.pointer none, rfl, fun _ => by kernel_rfl⟩
theorem sc16 : Sc Try.prog 16 := ⟨fun _ => by kernel_rfl, fun _ => by kernel_rfl⟩
theorem ze16 : Ze Try.prog 16 [.pointer none] := ⟨.pointer none, rfl, fun _ => by kernel_rfl⟩
theorem sc17 : Sc Try.prog 17 := ⟨fun _ => by kernel_rfl, fun _ => by kernel_rfl⟩
theorem ze17 : Ze Try.prog 17 [.pointer none] := ⟨.pointer none, rfl, fun _ => by kernel_rfl⟩
theorem ag18 : Ag Try.prog 18 1 := ⟨fun _ => by kernel_rfl, fun _ => by kernel_rfl⟩
theorem fa18_0 : Fa Try.prog 18 0 0 := fun _ _ _ => by kernel_rfl
theorem ze18 : Ze Try.prog 18 [.pointer none] := ⟨.agg #[.pointer none], rfl, fun _ => by kernel_rfl⟩
theorem ag19 : Ag Try.prog 19 1 := ⟨fun _ => by kernel_rfl, fun _ => by kernel_rfl⟩
theorem fa19_0 : Fa Try.prog 19 0 0 := fun _ _ _ => by kernel_rfl
theorem ze19 : Ze Try.prog 19 [.pointer none] := ⟨.agg #[.pointer none], rfl, fun _ => by kernel_rfl⟩
theorem sc20 : Sc Try.prog 20 := ⟨fun _ => by kernel_rfl, fun _ => by kernel_rfl⟩
theorem ze20 : Ze Try.prog 20 [.nilIface] := ⟨.nilIface, rfl, fun _ => by kernel_rfl⟩
theorem sc21 : Sc Try.prog 21 := ⟨fun _ => by kernel_rfl, fun _ => by kernel_rfl⟩
theorem ze21 : Ze Try.prog 21 [.int .i32 0] := ⟨.int .i32 0, rfl, fun _ => by kernel_rfl⟩
theorem sc22 : Sc Try.prog 22 := ⟨fun _ => by kernel_rfl, fun _ => by kernel_rfl⟩
theorem ze22 : Ze Try.prog 22 [.int .u64 0] := ⟨.int .u64 0, rfl, fun _ => by kernel_rfl⟩
theorem sc23 : Sc Try.prog 23 := ⟨fun _ => by kernel_rfl, fun _ => by kernel_rfl⟩
theorem ze23 : Ze Try.prog 23 [.int .i64 0] := ⟨.int .i64 0, rfl, fun _ => by kernel_rfl⟩
theorem sc24 : Sc Try.prog 24 := ⟨fun _ => by kernel_rfl, fun _ => by kernel_rfl⟩
theorem sc25 : Sc Try.prog 25 := ⟨fun _ => by kernel_rfl, fun _ => by kernel_rfl⟩
theorem ze25 : Ze Try.prog 25 [.nilFunc] := ⟨.nilFunc, rfl, fun _ => by kernel_rfl⟩
theorem sc26 : Sc Try.prog 26 := ⟨fun _ => by kernel_rfl, fun _ => by kernel_rfl⟩
theorem ze26 : Ze Try.prog 26 [.nilFunc] := ⟨.nilFunc, rfl, fun _ => by kernel_rfl⟩
theorem ag27 : Ag Try.prog 27 2 := ⟨fun _ => by kernel_rfl, fun _ => by kernel_rfl⟩
theorem fa27_0 : Fa Try.prog 27 0 0 := fun _ _ _ => by kernel_rfl
theorem fa27_1 : Fa Try.prog 27 1 1 := fun _ _ _ => by kernel_rfl
theorem ze27 : Ze Try.prog 27 [.string ⟨#[]⟩, .int .i64 0] := ⟨.agg #[.string ⟨#[]⟩, .int .i64 0], rfl, fun _ => by kernel_rfl⟩
theorem ag28 : Ag Try.prog 28 2 := ⟨fun _ => by kernel_rfl, fun _ => by kernel_rfl⟩
theorem fa28_0 : Fa Try.prog 28 0 0 := fun _ _ _ => by kernel_rfl
theorem fa28_1 : Fa Try.prog 28 1 1 := fun _ _ _ => by kernel_rfl
theorem ze28 : Ze Try.prog 28 [.string ⟨#[]⟩, .int .i64 0] := ⟨.agg #[.string ⟨#[]⟩, .int .i64 0], rfl, fun _ => by kernel_rfl⟩
theorem sc29 : Sc Try.prog 29 := ⟨fun _ => by kernel_rfl, fun _ => by kernel_rfl⟩
theorem sc30 : Sc Try.prog 30 := ⟨fun _ => by kernel_rfl, fun _ => by kernel_rfl⟩
theorem ze30 : Ze Try.prog 30 [.nilFunc] := ⟨.nilFunc, rfl, fun _ => by kernel_rfl⟩
theorem sc31 : Sc Try.prog 31 := ⟨fun _ => by kernel_rfl, fun _ => by kernel_rfl⟩
theorem ze31 : Ze Try.prog 31 [.nilFunc] := ⟨.nilFunc, rfl, fun _ => by kernel_rfl⟩
theorem sc32 : Sc Try.prog 32 := ⟨fun _ => by kernel_rfl, fun _ => by kernel_rfl⟩
theorem ze32 : Ze Try.prog 32 [.nilFunc] := ⟨.nilFunc, rfl, fun _ => by kernel_rfl⟩
theorem sc33 : Sc Try.prog 33 := ⟨fun _ => by kernel_rfl, fun _ => by kernel_rfl⟩
theorem ze33 : Ze Try.prog 33 [.nilFunc] := ⟨.nilFunc, rfl, fun _ => by kernel_rfl⟩
theorem sc34 : Sc Try.prog 34 := ⟨fun _ => by kernel_rfl, fun _ => by kernel_rfl⟩
theorem ze34 : Ze Try.prog 34 [.nilFunc] := ⟨.nilFunc, rfl, fun _ => by kernel_rfl⟩
theorem sc35 : Sc Try.prog 35 := ⟨fun _ => by kernel_rfl, fun _ => by kernel_rfl⟩
theorem ze35 : Ze Try.prog 35 [.int .u32 0] := ⟨.int .u32 0, rfl, fun _ => by kernel_rfl⟩
theorem sc36 : Sc Try.prog 36 := ⟨fun _ => by kernel_rfl, fun _ => by kernel_rfl⟩
theorem ze36 : Ze Try.prog 36 [.nilFunc] := ⟨.nilFunc, rfl, fun _ => by kernel_rfl⟩
theorem sc37 : Sc Try.prog 37 := ⟨fun _ => by kernel_rfl, fun _ => by kernel_rfl⟩
theorem ze37 : Ze Try.prog 37 [.nilFunc] := ⟨.nilFunc, rfl, fun _ => by kernel_rfl⟩
theorem sc38 : Sc Try.prog 38 := ⟨fun _ => by kernel_rfl, fun _ => by kernel_rfl⟩
theorem sc39 : Sc Try.prog 39 := ⟨fun _ => by kernel_rfl, fun _ => by kernel_rfl⟩
theorem ze39 : Ze Try.prog 39 [.nilFunc] := ⟨.nilFunc, rfl, fun _ => by kernel_rfl⟩
theorem sc40 : Sc Try.prog 40 := ⟨fun _ => by kernel_rfl, fun _ => by kernel_rfl⟩
theorem ze40 : Ze Try.prog 40 [.slice none 0 0] := ⟨.slice none 0 0, rfl, fun _ => by kernel_rfl⟩
theorem sc41 : Sc Try.prog 41 := ⟨fun _ => by kernel_rfl, fun _ => by kernel_rfl⟩
theorem ze41 : Ze Try.prog 41 [.nilFunc] := ⟨.nilFunc, rfl, fun _ => by kernel_rfl⟩
theorem sc42 : Sc Try.prog 42 := ⟨fun _ => by kernel_rfl, fun _ => by kernel_rfl⟩
theorem sc43 : Sc Try.prog 43 := ⟨fun _ => by kernel_rfl, fun _ => by kernel_rfl⟩
theorem ze43 : Ze Try.prog 43 [.nilFunc] := ⟨.nilFunc, rfl, fun _ => by kernel_rfl⟩
theorem sc44 : Sc Try.prog 44 := ⟨fun _ => by kernel_rfl, fun _ => by kernel_rfl⟩
theorem ze44 : Ze Try.prog 44 [.nilFunc] := ⟨.nilFunc, rfl, fun _ => by kernel_rfl⟩
theorem sc45 : Sc Try.prog 45 := ⟨fun _ => by kernel_rfl, fun _ => by kernel_rfl⟩
theorem ze45 : Ze Try.prog 45 [.nilFunc] := ⟨.nilFunc, rfl, fun _ => by kernel_rfl⟩
theorem sc46 : Sc Try.prog 46 := ⟨fun _ => by kernel_rfl, fun _ => by kernel_rfl⟩
theorem ze46 : Ze Try.prog 46 [.pointer none] := ⟨.pointer none, rfl, fun _ => by kernel_rfl⟩
theorem sc47 : Sc Try.prog 47 := ⟨fun _ => by kernel_rfl, fun _ => by kernel_rfl⟩
theorem ze47 : Ze Try.prog 47 [.nilFunc] := ⟨.nilFunc, rfl, fun _ => by kernel_rfl⟩
theorem sc48 : Sc Try.prog 48 := ⟨fun _ => by kernel_rfl, fun _ => by kernel_rfl⟩
theorem ze48 : Ze Try.prog 48 [.nilFunc] := ⟨.nilFunc, rfl, fun _ => by kernel_rfl⟩
theorem sc49 : Sc Try.prog 49 := ⟨fun _ => by kernel_rfl, fun _ => by kernel_rfl⟩
theorem ze49 : Ze Try.prog 49 [.nilFunc] := ⟨.nilFunc, rfl, fun _ => by kernel_rfl⟩
theorem sc50 : Sc Try.prog 50 := ⟨fun _ => by kernel_rfl, fun _ => by kernel_rfl⟩
theorem ze50 : Ze Try.prog 50 [.slice none 0 0] := ⟨.slice none 0 0, rfl, fun _ => by kernel_rfl⟩
theorem sc51 : Sc Try.prog 51 := ⟨fun _ => by kernel_rfl, fun _ => by kernel_rfl⟩
theorem ze51 : Ze Try.prog 51 [.slice none 0 0] := ⟨.slice none 0 0, rfl, fun _ => by kernel_rfl⟩
theorem ag52 : Ag Try.prog 52 3 := ⟨fun _ => by kernel_rfl, fun _ => by kernel_rfl⟩
theorem fa52_0 : Fa Try.prog 52 0 0 := fun _ _ _ => by kernel_rfl
theorem fa52_1 : Fa Try.prog 52 1 1 := fun _ _ _ => by kernel_rfl
theorem fa52_2 : Fa Try.prog 52 2 2 := fun _ _ _ => by kernel_rfl
theorem ze52 : Ze Try.prog 52 [.int .i64 0, .int .i64 0, .bool false] := ⟨.agg #[.int .i64 0, .int .i64 0, .bool false], rfl, fun _ => by kernel_rfl⟩
theorem ag53 : Ag Try.prog 53 3 := ⟨fun _ => by kernel_rfl, fun _ => by kernel_rfl⟩
theorem fa53_0 : Fa Try.prog 53 0 0 := fun _ _ _ => by kernel_rfl
theorem fa53_1 : Fa Try.prog 53 1 1 := fun _ _ _ => by kernel_rfl
theorem fa53_2 : Fa Try.prog 53 2 2 := fun _ _ _ => by kernel_rfl
theorem ze53 : Ze Try.prog 53 [.int .i64 0, .int .i64 0, .bool false] := ⟨.agg #[.int .i64 0, .int .i64 0, .bool false], rfl, fun _ => by kernel_rfl⟩
theorem sc54 : Sc Try.prog 54 := ⟨fun _ => by kernel_rfl, fun _ => by kernel_rfl⟩
theorem ze54 : Ze Try.prog 54 [.nilFunc] := ⟨.nilFunc, rfl, fun _ => by kernel_rfl⟩
theorem sc55 : Sc Try.prog 55 := ⟨fun _ => by kernel_rfl, fun _ => by kernel_rfl⟩
theorem sc56 : Sc Try.prog 56 := ⟨fun _ => by kernel_rfl, fun _ => by kernel_rfl⟩
theorem ze56 : Ze Try.prog 56 [.nilFunc] := ⟨.nilFunc, rfl, fun _ => by kernel_rfl⟩
theorem sc57 : Sc Try.prog 57 := ⟨fun _ => by kernel_rfl, fun _ => by kernel_rfl⟩
theorem sc58 : Sc Try.prog 58 := ⟨fun _ => by kernel_rfl, fun _ => by kernel_rfl⟩
theorem ze58 : Ze Try.prog 58 [.nilFunc] := ⟨.nilFunc, rfl, fun _ => by kernel_rfl⟩
theorem sc59 : Sc Try.prog 59 := ⟨fun _ => by kernel_rfl, fun _ => by kernel_rfl⟩
theorem ze59 : Ze Try.prog 59 [.nilFunc] := ⟨.nilFunc, rfl, fun _ => by kernel_rfl⟩
theorem sc60 : Sc Try.prog 60 := ⟨fun _ => by kernel_rfl, fun _ => by kernel_rfl⟩
theorem ze60 : Ze Try.prog 60 [.nilFunc] := ⟨.nilFunc, rfl, fun _ => by kernel_rfl⟩
theorem sc61 : Sc Try.prog 61 := ⟨fun _ => by kernel_rfl, fun _ => by kernel_rfl⟩
theorem ze61 : Ze Try.prog 61 [.nilFunc] := ⟨.nilFunc, rfl, fun _ => by kernel_rfl⟩
theorem sc62 : Sc Try.prog 62 := ⟨fun _ => by kernel_rfl, fun _ => by kernel_rfl⟩
theorem sc63 : Sc Try.prog 63 := ⟨fun _ => by kernel_rfl, fun _ => by kernel_rfl⟩
theorem ze63 : Ze Try.prog 63 [.nilFunc] := ⟨.nilFunc, rfl, fun _ => by kernel_rfl⟩
theorem sc64 : Sc Try.prog 64 := ⟨fun _ => by kernel_rfl, fun _ => by kernel_rfl⟩
theorem ze64 : Ze Try.prog 64 [.nilFunc] := ⟨.nilFunc, rfl, fun _ => by kernel_rfl⟩
theorem sc65 : Sc Try.prog 65 := ⟨fun _ => by kernel_rfl, fun _ => by kernel_rfl⟩
theorem ze65 : Ze Try.prog 65 [.nilFunc] := ⟨.nilFunc, rfl, fun _ => by kernel_rfl⟩
theorem ag66 : Ag Try.prog 66 6 := ⟨fun _ => by kernel_rfl, fun _ => by kernel_rfl⟩
theorem fa66_0 : Fa Try.prog 66 0 0 := fun _ _ _ => by kernel_rfl
theorem fa66_1 : Fa Try.prog 66 1 1 := fun _ _ _ => by kernel_rfl
theorem fa66_2 : Fa Try.prog 66 2 2 := fun _ _ _ => by kernel_rfl
theorem fa66_3 : Fa Try.prog 66 3 3 := fun _ _ _ => by kernel_rfl
theorem fa66_4 : Fa Try.prog 66 4 4 := fun _ _ _ => by kernel_rfl
theorem fa66_5 : Fa Try.prog 66 5 5 := fun _ _ _ => by kernel_rfl
theorem ze66 : Ze Try.prog 66 [.int .u64 0, .int .i64 0, .int .u64 0, .int .i64 0, .int .u64 0, .int .u64 0] := ⟨.agg #[.int .u64 0, .int .i64 0, .int .u64 0, .int .i64 0, .int .u64 0, .int .u64 0], rfl, fun _ => by kernel_rfl⟩
theorem ag67 : Ag Try.prog 67 6 := ⟨fun _ => by kernel_rfl, fun _ => by kernel_rfl⟩
theorem fa67_0 : Fa Try.prog 67 0 0 := fun _ _ _ => by kernel_rfl
theorem fa67_1 : Fa Try.prog 67 1 1 := fun _ _ _ => by kernel_rfl
theorem fa67_2 : Fa Try.prog 67 2 2 := fun _ _ _ => by kernel_rfl
theorem fa67_3 : Fa Try.prog 67 3 3 := fun _ _ _ => by kernel_rfl
theorem fa67_4 : Fa Try.prog 67 4 4 := fun _ _ _ => by kernel_rfl
theorem fa67_5 : Fa Try.prog 67 5 5 := fun _ _ _ => by kernel_rfl
theorem ze67 : Ze Try.prog 67 [.int .u64 0, .int .i64 0, .int .u64 0, .int .i64 0, .int .u64 0, .int .u64 0] := ⟨.agg #[.int .u64 0, .int .i64 0, .int .u64 0, .int .i64 0, .int .u64 0, .int .u64 0], rfl, fun _ => by kernel_rfl⟩
theorem sc68 : Sc Try.prog 68 := ⟨fun _ => by kernel_rfl, fun _ => by kernel_rfl⟩
theorem ze68 : Ze Try.prog 68 [.nilFunc] := ⟨.nilFunc, rfl, fun _ => by kernel_rfl⟩
theorem sc69 : Sc Try.prog 69 := ⟨fun _ => by kernel_rfl, fun _ => by kernel_rfl⟩
theorem ze69 : Ze Try.prog 69 [.nilFunc] := ⟨.nilFunc, rfl, fun _ => by kernel_rfl⟩
theorem sc70 : Sc Try.prog 70 := ⟨fun _ => by kernel_rfl, fun _ => by kernel_rfl⟩
theorem ze70 : Ze Try.prog 70 [.nilFunc] := ⟨.nilFunc, rfl, fun _ => by kernel_rfl⟩
theorem ag71 : Ag Try.prog 71 5 := ⟨fun _ => by kernel_rfl, fun _ => by kernel_rfl⟩
theorem fa71_0 : Fa Try.prog 71 0 0 := fun _ _ _ => by kernel_rfl
theorem fa71_1 : Fa Try.prog 71 1 1 := fun _ _ _ => by kernel_rfl
theorem fa71_2 : Fa Try.prog 71 2 2 := fun _ _ _ => by kernel_rfl
theorem fa71_3 : Fa Try.prog 71 3 3 := fun _ _ _ => by kernel_rfl
theorem fa71_4 : Fa Try.prog 71 4 4 := fun _ _ _ => by kernel_rfl
theorem ze71 : Ze Try.prog 71 [.int .i64 0, .string ⟨#[]⟩, .string ⟨#[]⟩, .int .u64 0, .int .u64 0] := ⟨.agg #[.int .i64 0, .string ⟨#[]⟩, .string ⟨#[]⟩, .int .u64 0, .int .u64 0], rfl, fun _ => by kernel_rfl⟩
theorem ag72 : Ag Try.prog 72 5 := ⟨fun _ => by kernel_rfl, fun _ => by kernel_rfl⟩
theorem fa72_0 : Fa Try.prog 72 0 0 := fun _ _ _ => by kernel_rfl
theorem fa72_1 : Fa Try.prog 72 1 1 := fun _ _ _ => by kernel_rfl
theorem fa72_2 : Fa Try.prog 72 2 2 := fun _ _ _ => by kernel_rfl
theorem fa72_3 : Fa Try.prog 72 3 3 := fun _ _ _ => by kernel_rfl
theorem fa72_4 : Fa Try.prog 72 4 4 := fun _ _ _ => by kernel_rfl
theorem ze72 : Ze Try.prog 72 [.int .i64 0, .string ⟨#[]⟩, .string ⟨#[]⟩, .int .u64 0, .int .u64 0] := ⟨.agg #[.int .i64 0, .string ⟨#[]⟩, .string ⟨#[]⟩, .int .u64 0, .int .u64 0], rfl, fun _ => by kernel_rfl⟩
theorem sc73 : Sc Try.prog 73 := ⟨fun _ => by kernel_rfl, fun _ => by kernel_rfl⟩
theorem ze73 : Ze Try.prog 73 [.nilFunc] := ⟨.nilFunc, rfl, fun _ => by kernel_rfl⟩
theorem sc74 : Sc Try.prog 74 := ⟨fun _ => by kernel_rfl, fun _ => by kernel_rfl⟩
theorem ze74 : Ze Try.prog 74 [.nilFunc] := ⟨.nilFunc, rfl, fun _ => by kernel_rfl⟩
theorem sc75 : Sc Try.prog 75 := ⟨fun _ => by kernel_rfl, fun _ => by kernel_rfl⟩
theorem ze75 : Ze Try.prog 75 [.nilFunc] := ⟨.nilFunc, rfl, fun _ => by kernel_rfl⟩
theorem sc76 : Sc Try.prog 76 := ⟨fun _ => by kernel_rfl, fun _ => by kernel_rfl⟩
theorem ze76 : Ze Try.prog 76 [.nilFunc] := ⟨.nilFunc, rfl, fun _ => by kernel_rfl⟩
theorem ag77 : Ag Try.prog 77 9 := ⟨fun _ => by kernel_rfl, fun _ => by kernel_rfl⟩
theorem fa77_0 : Fa Try.prog 77 0 0 := fun _ _ _ => by kernel_rfl
theorem fa77_1 : Fa Try.prog 77 1 1 := fun _ _ _ => by kernel_rfl
theorem fa77_2 : Fa Try.prog 77 2 2 := fun _ _ _ => by kernel_rfl
theorem fa77_3 : Fa Try.prog 77 3 3 := fun _ _ _ => by kernel_rfl
theorem fa77_4 : Fa Try.prog 77 4 4 := fun _ _ _ => by kernel_rfl
theorem ze77 : Ze Try.prog 77 [.int .u64 0, .int .u64 0, .int .u64 0, .int .u64 0, .int .i64 0, .string ⟨#[]⟩, .string ⟨#[]⟩, .int .u64 0, .int .u64 0] := ⟨.agg #[.int .u64 0, .int .u64 0, .int .u64 0, .int .u64 0, .int .i64 0, .string ⟨#[]⟩, .string ⟨#[]⟩, .int .u64 0, .int .u64 0], rfl, fun _ => by kernel_rfl⟩
theorem ag78 : Ag Try.prog 78 9 := ⟨fun _ => by kernel_rfl, fun _ => by kernel_rfl⟩
theorem fa78_0 : Fa Try.prog 78 0 0 := fun _ _ _ => by kernel_rfl
theorem fa78_1 : Fa Try.prog 78 1 1 := fun _ _ _ => by kernel_rfl
theorem fa78_2 : Fa Try.prog 78 2 2 := fun _ _ _ => by kernel_rfl
theorem fa78_3 : Fa Try.prog 78 3 3 := fun _ _ _ => by kernel_rfl
theorem fa78_4 : Fa Try.prog 78 4 4 := fun _ _ _ => by kernel_rfl
theorem ze78 : Ze Try.prog 78 [.int .u64 0, .int .u64 0, .int .u64 0, .int .u64 0, .int .i64 0, .string ⟨#[]⟩, .string ⟨#[]⟩, .int .u64 0, .int .u64 0] := ⟨.agg #[.int .u64 0, .int .u64 0, .int .u64 0, .int .u64 0, .int .i64 0, .string ⟨#[]⟩, .string ⟨#[]⟩, .int .u64 0, .int .u64 0], rfl, fun _ => by kernel_rfl⟩
theorem ag79 : Ag Try.prog 79 3 := ⟨fun _ => by kernel_rfl, fun _ => by kernel_rfl⟩
theorem fa79_0 : Fa Try.prog 79 0 0 := fun _ _ _ => by kernel_rfl
theorem fa79_1 : Fa Try.prog 79 1 1 := fun _ _ _ => by kernel_rfl
theorem fa79_2 : Fa Try.prog 79 2 2 := fun _ _ _ => by kernel_rfl
theorem ze79 : Ze Try.prog 79 [.int .i64 0, .string ⟨#[]⟩, .int .u64 0] := ⟨.agg #[.int .i64 0, .string ⟨#[]⟩, .int .u64 0], rfl, fun _ => by kernel_rfl⟩
theorem ag80 : Ag Try.prog 80 3 := ⟨fun _ => by kernel_rfl, fun _ => by kernel_rfl⟩
theorem fa80_0 : Fa Try.prog 80 0 0 := fun _ _ _ => by kernel_rfl
theorem fa80_1 : Fa Try.prog 80 1 1 := fun _ _ _ => by kernel_rfl
theorem fa80_2 : Fa Try.prog 80 2 2 := fun _ _ _ => by kernel_rfl
theorem ze80 : Ze Try.prog 80 [.int .i64 0, .string ⟨#[]⟩, .int .u64 0] := ⟨.agg #[.int .i64 0, .string ⟨#[]⟩, .int .u64 0], rfl, fun _ => by kernel_rfl⟩
theorem sc81 : Sc Try.prog 81 := ⟨fun _ => by kernel_rfl, fun _ => by kernel_rfl⟩
theorem sc82 : Sc Try.prog 82 := ⟨fun _ => by kernel_rfl, fun _ => by kernel_rfl⟩
theorem ze82 : Ze Try.prog 82 [.nilFunc] := ⟨.nilFunc, rfl, fun _ => by kernel_rfl⟩
theorem sc83 : Sc Try.prog 83 := ⟨fun _ => by kernel_rfl, fun _ => by kernel_rfl⟩
theorem ze83 : Ze Try.prog 83 [.nilFunc] := ⟨.nilFunc, rfl, fun _ => by kernel_rfl⟩
theorem sc84 : Sc Try.prog 84 := ⟨fun _ => by kernel_rfl, fun _ => by kernel_rfl⟩
theorem sc85 : Sc Try.prog 85 := ⟨fun _ => by kernel_rfl, fun _ => by kernel_rfl⟩
theorem ze85 : Ze Try.prog 85 [.nilFunc] := ⟨.nilFunc, rfl, fun _ => by kernel_rfl⟩
theorem sc86 : Sc Try.prog 86 := ⟨fun _ => by kernel_rfl, fun _ => by kernel_rfl⟩
theorem ze86 : Ze Try.prog 86 [.nilFunc] := ⟨.nilFunc, rfl, fun _ => by kernel_rfl⟩
theorem sc87 : Sc Try.prog 87 := ⟨fun _ => by kernel_rfl, fun _ => by kernel_rfl⟩
theorem ze87 : Ze Try.prog 87 [.nilFunc] := ⟨.nilFunc, rfl, fun _ => by kernel_rfl⟩
theorem sc88 : Sc Try.prog 88 := ⟨fun _ => by kernel_rfl, fun _ => by kernel_rfl⟩
theorem ze88 : Ze Try.prog 88 [.nilFunc] := ⟨.nilFunc, rfl, fun _ => by kernel_rfl⟩
theorem sc89 : Sc Try.prog 89 := ⟨fun _ => by kernel_rfl, fun _ => by kernel_rfl⟩
theorem ze89 : Ze Try.prog 89 [.pointer none] := ⟨.pointer none, rfl, fun _ => by kernel_rfl⟩
theorem ag90 : Ag Try.prog 90 2 := ⟨fun _ => by kernel_rfl, fun _ => by kernel_rfl⟩
theorem fa90_0 : Fa Try.prog 90 0 0 := fun _ _ _ => by kernel_rfl
theorem fa90_1 : Fa Try.prog 90 1 1 := fun _ _ _ => by kernel_rfl
theorem ze90 : Ze Try.prog 90 [.pointer none, .slice none 0 0] := ⟨.agg #[.pointer none, .slice none 0 0], rfl, fun _ => by kernel_rfl⟩
theorem ag91 : Ag Try.prog 91 2 := ⟨fun _ => by kernel_rfl, fun _ => by kernel_rfl⟩
theorem fa91_0 : Fa Try.prog 91 0 0 := fun _ _ _ => by kernel_rfl
theorem fa91_1 : Fa Try.prog 91 1 1 := fun _ _ _ => by kernel_rfl
theorem ze91 : Ze Try.prog 91 [.pointer none, .slice none 0 0] := ⟨.agg #[.pointer none, .slice none 0 0], rfl, fun _ => by kernel_rfl⟩
theorem sc92 : Sc Try.prog 92 := ⟨fun _ => by kernel_rfl, fun _ => by kernel_rfl⟩
theorem ze92 : Ze Try.prog 92 [.nilIface] := ⟨.nilIface, rfl, fun _ => by kernel_rfl⟩
theorem sc93 : Sc Try.prog 93 := ⟨fun _ => by kernel_rfl, fun _ => by kernel_rfl⟩
theorem ze93 : Ze Try.prog 93 [.nilIface] := ⟨.nilIface, rfl, fun _ => by kernel_rfl⟩
theorem sc94 : Sc Try.prog 94 := ⟨fun _ => by kernel_rfl, fun _ => by kernel_rfl⟩
theorem ze94 : Ze Try.prog 94 [.nilFunc] := ⟨.nilFunc, rfl, fun _ => by kernel_rfl⟩
theorem sc95 : Sc Try.prog 95 := ⟨fun _ => by kernel_rfl, fun _ => by kernel_rfl⟩
theorem ze95 : Ze Try.prog 95 [.nilFunc] := ⟨.nilFunc, rfl, fun _ => by kernel_rfl⟩
theorem sc96 : Sc Try.prog 96 := ⟨fun _ => by kernel_rfl, fun _ => by kernel_rfl⟩
theorem ze96 : Ze Try.prog 96 [.int .u64 0] := ⟨.int .u64 0, rfl, fun _ => by kernel_rfl⟩
theorem sc97 : Sc Try.prog 97 := ⟨fun _ => by kernel_rfl, fun _ => by kernel_rfl⟩
theorem ze97 : Ze Try.prog 97 [.nilFunc] := ⟨.nilFunc, rfl, fun _ => by kernel_rfl⟩
theorem ag98 : Ag Try.prog 98 1 := ⟨fun _ => by kernel_rfl, fun _ => by kernel_rfl⟩
theorem fa98_0 : Fa Try.prog 98 0 0 := fun _ _ _ => by kernel_rfl
theorem ze98 : Ze Try.prog 98 [.int .i64 0] := ⟨.agg #[.int .i64 0], rfl, fun _ => by kernel_rfl⟩
theorem ag99 : Ag Try.prog 99 1 := ⟨fun _ => by kernel_rfl, fun _ => by kernel_rfl⟩
theorem fa99_0 : Fa Try.prog 99 0 0 := fun _ _ _ => by kernel_rfl
theorem ze99 : Ze Try.prog 99 [.int .i64 0] := ⟨.agg #[.int .i64 0], rfl, fun _ => by kernel_rfl⟩
theorem ag100 : Ag Try.prog 100 1 := ⟨fun _ => by kernel_rfl, fun _ => by kernel_rfl⟩
theorem fa100_0 : Fa Try.prog 100 0 0 := fun _ _ _ => by kernel_rfl
theorem ze100 : Ze Try.prog 100 [.string ⟨#[]⟩] := ⟨.agg #[.string ⟨#[]⟩], rfl, fun _ => by kernel_rfl⟩
theorem ag101 : Ag Try.prog 101 1 := ⟨fun _ => by kernel_rfl, fun _ => by kernel_rfl⟩
theorem fa101_0 : Fa Try.prog 101 0 0 := fun _ _ _ => by kernel_rfl
theorem ze101 : Ze Try.prog 101 [.string ⟨#[]⟩] := ⟨.agg #[.string ⟨#[]⟩], rfl, fun _ => by kernel_rfl⟩
theorem sc102 : Sc Try.prog 102 := ⟨fun _ => by kernel_rfl, fun _ => by kernel_rfl⟩
theorem ze102 : Ze Try.prog 102 [.nilFunc] := ⟨.nilFunc, rfl, fun _ => by kernel_rfl⟩
theorem sc103 : Sc Try.prog 103 := ⟨fun _ => by kernel_rfl, fun _ => by kernel_rfl⟩
theorem ze103 : Ze Try.prog 103 [.pointer none] := ⟨.pointer none, rfl, fun _ => by kernel_rfl⟩
theorem sc104 : Sc Try.prog 104 := ⟨fun _ => by kernel_rfl, fun _ => by kernel_rfl⟩
theorem sc105 : Sc Try.prog 105 := ⟨fun _ => by kernel_rfl, fun _ => by kernel_rfl⟩
theorem ze105 : Ze Try.prog 105 [.nilFunc] := ⟨.nilFunc, rfl, fun _ => by kernel_rfl⟩
theorem sc106 : Sc Try.prog 106 := ⟨fun _ => by kernel_rfl, fun _ => by kernel_rfl⟩
theorem ze106 : Ze Try.prog 106 [.nilFunc] := ⟨.nilFunc, rfl, fun _ => by kernel_rfl⟩
theorem ag107 : Ag Try.prog 107 16 := ⟨fun _ => by kernel_rfl, fun _ => by kernel_rfl⟩
theorem fa107_0 : Fa Try.prog 107 0 0 := fun _ _ _ => by kernel_rfl
theorem fa107_1 : Fa Try.prog 107 1 1 := fun _ _ _ => by kernel_rfl
theorem fa107_2 : Fa Try.prog 107 2 2 := fun _ _ _ => by kernel_rfl
theorem fa107_3 : Fa Try.prog 107 3 3 := fun _ _ _ => by kernel_rfl
theorem fa107_4 : Fa Try.prog 107 4 4 := fun _ _ _ => by kernel_rfl
theorem fa107_5 : Fa Try.prog 107 5 10 := fun _ _ _ => by kernel_rfl
theorem ze107 : Ze Try.prog 107 [.bool false, .int .u64 0, .int .u64 0, .int .u64 0, .int .u64 0, .int .i64 0, .int .u64 0, .int .i64 0, .int .u64 0, .int .u64 0, .int .u64 0, .int .i64 0, .int .u64 0, .int .i64 0, .int .u64 0, .int .u64 0] := ⟨.agg #[.bool false, .int .u64 0, .int .u64 0, .int .u64 0, .int .u64 0, .int .i64 0, .int .u64 0, .int .i64 0, .int .u64 0, .int .u64 0, .int .u64 0, .int .i64 0, .int .u64 0, .int .i64 0, .int .u64 0, .int .u64 0], rfl, fun _ => by kernel_rfl⟩
theorem ag108 : Ag Try.prog 108 16 := ⟨fun _ => by kernel_rfl, fun _ => by kernel_rfl⟩
theorem fa108_0 : Fa Try.prog 108 0 0 := fun _ _ _ => by kernel_rfl
theorem fa108_1 : Fa Try.prog 108 1 1 := fun _ _ _ => by kernel_rfl
theorem fa108_2 : Fa Try.prog 108 2 2 := fun _ _ _ => by kernel_rfl
theorem fa108_3 : Fa Try.prog 108 3 3 := fun _ _ _ => by kernel_rfl
theorem fa108_4 : Fa Try.prog 108 4 4 := fun _ _ _ => by kernel_rfl
theorem fa108_5 : Fa Try.prog 108 5 10 := fun _ _ _ => by kernel_rfl
theorem ze108 : Ze Try.prog 108 [.bool false, .int .u64 0, .int .u64 0, .int .u64 0, .int .u64 0, .int .i64 0, .int .u64 0, .int .i64 0, .int .u64 0, .int .u64 0, .int .u64 0, .int .i64 0, .int .u64 0, .int .i64 0, .int .u64 0, .int .u64 0] := ⟨.agg #[.bool false, .int .u64 0, .int .u64 0, .int .u64 0, .int .u64 0, .int .i64 0, .int .u64 0, .int .i64 0, .int .u64 0, .int .u64 0, .int .u64 0, .int .i64 0, .int .u64 0, .int .i64 0, .int .u64 0, .int .u64 0], rfl, fun _ => by kernel_rfl⟩
theorem sc109 : Sc Try.prog 109 := ⟨fun _ => by kernel_rfl, fun _ => by kernel_rfl⟩
theorem ze109 : Ze Try.prog 109 [.nilFunc] := ⟨.nilFunc, rfl, fun _ => by kernel_rfl⟩
theorem sc110 : Sc Try.prog 110 := ⟨fun _ => by kernel_rfl, fun _ => by kernel_rfl⟩
theorem ze110 : Ze Try.prog 110 [.slice none 0 0] := ⟨.slice none 0 0, rfl, fun _ => by kernel_rfl⟩
theorem sc111 : Sc Try.prog 111 := ⟨fun _ => by kernel_rfl, fun _ => by kernel_rfl⟩
theorem ze111 : Ze Try.prog 111 [.nilFunc] := ⟨.nilFunc, rfl, fun _ => by kernel_rfl⟩
theorem sc112 : Sc Try.prog 112 := ⟨fun _ => by kernel_rfl, fun _ => by kernel_rfl⟩
theorem ze112 : Ze Try.prog 112 [.pointer none] := ⟨.pointer none, rfl, fun _ => by kernel_rfl⟩
theorem ag113 : Ag Try.prog 113 14 := ⟨fun _ => by kernel_rfl, fun _ => by kernel_rfl⟩
theorem fa113_0 : Fa Try.prog 113 0 0 := fun _ _ _ => by kernel_rfl
theorem fa113_1 : Fa Try.prog 113 1 6 := fun _ _ _ => by kernel_rfl
theorem fa113_2 : Fa Try.prog 113 2 7 := fun _ _ _ => by kernel_rfl
theorem fa113_3 : Fa Try.prog 113 3 8 := fun _ _ _ => by kernel_rfl
theorem ze113 : Ze Try.prog 113 [.int .u64 0, .int .i64 0, .int .u64 0, .int .i64 0, .int .u64 0, .int .u64 0, .int .u64 0, .int .u64 0, .int .u64 0, .int .i64 0, .int .u64 0, .int .i64 0, .int .u64 0, .int .u64 0] := ⟨.agg #[.int .u64 0, .int .i64 0, .int .u64 0, .int .i64 0, .int .u64 0, .int .u64 0, .int .u64 0, .int .u64 0, .int .u64 0, .int .i64 0, .int .u64 0, .int .i64 0, .int .u64 0, .int .u64 0], rfl, fun _ => by kernel_rfl⟩
theorem ag114 : Ag Try.prog 114 14 := ⟨fun _ => by kernel_rfl, fun _ => by kernel_rfl⟩
theorem fa114_0 : Fa Try.prog 114 0 0 := fun _ _ _ => by kernel_rfl
theorem fa114_1 : Fa Try.prog 114 1 6 := fun _ _ _ => by kernel_rfl
theorem fa114_2 : Fa Try.prog 114 2 7 := fun _ _ _ => by kernel_rfl
theorem fa114_3 : Fa Try.prog 114 3 8 := fun _ _ _ => by kernel_rfl
theorem ze114 : Ze Try.prog 114 [.int .u64 0, .int .i64 0, .int .u64 0, .int .i64 0, .int .u64 0, .int .u64 0, .int .u64 0, .int .u64 0, .int .u64 0, .int .i64 0, .int .u64 0, .int .i64 0, .int .u64 0, .int .u64 0] := ⟨.agg #[.int .u64 0, .int .i64 0, .int .u64 0, .int .i64 0, .int .u64 0, .int .u64 0, .int .u64 0, .int .u64 0, .int .u64 0, .int .i64 0, .int .u64 0, .int .i64 0, .int .u64 0, .int .u64 0], rfl, fun _ => by kernel_rfl⟩
theorem sc115 : Sc Try.prog 115 := ⟨fun _ => by kernel_rfl, fun _ => by kernel_rfl⟩
theorem ze115 : Ze Try.prog 115 [.nilFunc] := ⟨.nilFunc, rfl, fun _ => by kernel_rfl⟩
theorem sc116 : Sc Try.prog 116 := ⟨fun _ => by kernel_rfl, fun _ => by kernel_rfl⟩
theorem ze116 : Ze Try.prog 116 [.pointer none] := ⟨.pointer none, rfl, fun _ => by kernel_rfl⟩
theorem sc117 : Sc Try.prog 117 := ⟨fun _ => by kernel_rfl, fun _ => by kernel_rfl⟩
theorem ze117 : Ze Try.prog 117 [.nilFunc] := ⟨.nilFunc, rfl, fun _ => by kernel_rfl⟩
theorem ag118 : Ag Try.prog 118 4 := ⟨fun _ => by kernel_rfl, fun _ => by kernel_rfl⟩
theorem fa118_0 : Fa Try.prog 118 0 0 := fun _ _ _ => by kernel_rfl
theorem fa118_1 : Fa Try.prog 118 1 1 := fun _ _ _ => by kernel_rfl
theorem fa118_2 : Fa Try.prog 118 2 2 := fun _ _ _ => by kernel_rfl
theorem fa118_3 : Fa Try.prog 118 3 3 := fun _ _ _ => by kernel_rfl
theorem ze118 : Ze Try.prog 118 [.pointer none, .pointer none, .pointer none, .string ⟨#[]⟩] := ⟨.agg #[.pointer none, .pointer none, .pointer none, .string ⟨#[]⟩], rfl, fun _ => by kernel_rfl⟩
theorem ag119 : Ag Try.prog 119 4 := ⟨fun _ => by kernel_rfl, fun _ => by kernel_rfl⟩
theorem fa119_0 : Fa Try.prog 119 0 0 := fun _ _ _ => by kernel_rfl
theorem fa119_1 : Fa Try.prog 119 1 1 := fun _ _ _ => by kernel_rfl
theorem fa119_2 : Fa Try.prog 119 2 2 := fun _ _ _ => by kernel_rfl
theorem fa119_3 : Fa Try.prog 119 3 3 := fun _ _ _ => by kernel_rfl
theorem ze119 : Ze Try.prog 119 [.pointer none, .pointer none, .pointer none, .string ⟨#[]⟩] := ⟨.agg #[.pointer none, .pointer none, .pointer none, .string ⟨#[]⟩], rfl, fun _ => by kernel_rfl⟩
theorem ag120 : Ag Try.prog 120 0 := ⟨fun _ => by kernel_rfl, fun _ => by kernel_rfl⟩
theorem ze120 : Ze Try.prog 120 [] := ⟨.agg #[], rfl, fun _ => by kernel_rfl⟩
theorem ag121 : Ag Try.prog 121 0 := ⟨fun _ => by kernel_rfl, fun _ => by kernel_rfl⟩
theorem ze121 : Ze Try.prog 121 [] := ⟨.agg #[], rfl, fun _ => by kernel_rfl⟩
theorem ag122 : Ag Try.prog 122 0 := ⟨fun _ => by kernel_rfl, fun _ => by kernel_rfl⟩
theorem ze122 : Ze Try.prog 122 [] := ⟨.agg #[], rfl, fun _ => by kernel_rfl⟩
theorem sc123 : Sc Try.prog 123 := ⟨fun _ => by kernel_rfl, fun _ => by kernel_rfl⟩
theorem ze123 : Ze Try.prog 123 [.int .u8 0] := ⟨.int .u8 0, rfl, fun _ => by kernel_rfl⟩
theorem sc124 : Sc Try.prog 124 := ⟨fun _ => by kernel_rfl, fun _ => by kernel_rfl⟩
theorem ze124 : Ze Try.prog 124 [.int .u8 0] := ⟨.int .u8 0, rfl, fun _ => by kernel_rfl⟩
theorem sc125 : Sc Try.prog 125 := ⟨fun _ => by kernel_rfl, fun _ => by kernel_rfl⟩
theorem ze125 : Ze Try.prog 125 [.nilFunc] := ⟨.nilFunc, rfl, fun _ => by kernel_rfl⟩
theorem sc126 : Sc Try.prog 126 := ⟨fun _ => by kernel_rfl, fun _ => by kernel_rfl⟩
theorem ze126 : Ze Try.prog 126 [.int .i32 0] := ⟨.int .i32 0, rfl, fun _ => by kernel_rfl⟩
theorem sc127 : Sc Try.prog 127 := ⟨fun _ => by kernel_rfl, fun _ => by kernel_rfl⟩
theorem ze127 : Ze Try.prog 127 [.int .i32 0] := ⟨.int .i32 0, rfl, fun _ => by kernel_rfl⟩
theorem ag128 : Ag Try.prog 128 11 := ⟨fun _ => by kernel_rfl, fun _ => by kernel_rfl⟩
theorem fa128_0 : Fa Try.prog 128 0 0 := fun _ _ _ => by kernel_rfl
theorem fa128_1 : Fa Try.prog 128 1 1 := fun _ _ _ => by kernel_rfl
theorem fa128_2 : Fa Try.prog 128 2 2 := fun _ _ _ => by kernel_rfl
theorem fa128_3 : Fa Try.prog 128 3 3 := fun _ _ _ => by kernel_rfl
theorem fa128_4 : Fa Try.prog 128 4 4 := fun _ _ _ => by kernel_rfl
theorem fa128_5 : Fa Try.prog 128 5 5 := fun _ _ _ => by kernel_rfl
theorem fa128_6 : Fa Try.prog 128 6 6 := fun _ _ _ => by kernel_rfl
theorem fa128_7 : Fa Try.prog 128 7 7 := fun _ _ _ => by kernel_rfl
theorem fa128_8 : Fa Try.prog 128 8 8 := fun _ _ _ => by kernel_rfl
theorem fa128_9 : Fa Try.prog 128 9 9 := fun _ _ _ => by kernel_rfl
theorem fa128_10 : Fa Try.prog 128 10 10 := fun _ _ _ => by kernel_rfl
theorem ze128 : Ze Try.prog 128 [.int .u64 0, .int .u64 0, .int .u32 0, .int .u8 0, .int .u8 0, .int .u8 0, .int .u8 0, .nilFunc, .pointer none, .int .i32 0, .int .i32 0] := ⟨.agg #[.int .u64 0, .int .u64 0, .int .u32 0, .int .u8 0, .int .u8 0, .int .u8 0, .int .u8 0, .nilFunc, .pointer none, .int .i32 0, .int .i32 0], rfl, fun _ => by kernel_rfl⟩
theorem ag129 : Ag Try.prog 129 11 := ⟨fun _ => by kernel_rfl, fun _ => by kernel_rfl⟩
theorem fa129_0 : Fa Try.prog 129 0 0 := fun _ _ _ => by kernel_rfl
theorem fa129_1 : Fa Try.prog 129 1 1 := fun _ _ _ => by kernel_rfl
theorem fa129_2 : Fa Try.prog 129 2 2 := fun _ _ _ => by kernel_rfl
theorem fa129_3 : Fa Try.prog 129 3 3 := fun _ _ _ => by kernel_rfl
theorem fa129_4 : Fa Try.prog 129 4 4 := fun _ _ _ => by kernel_rfl
theorem fa129_5 : Fa Try.prog 129 5 5 := fun _ _ _ => by kernel_rfl
theorem fa129_6 : Fa Try.prog 129 6 6 := fun _ _ _ => by kernel_rfl
theorem fa129_7 : Fa Try.prog 129 7 7 := fun _ _ _ => by kernel_rfl
theorem fa129_8 : Fa Try.prog 129 8 8 := fun _ _ _ => by kernel_rfl
theorem fa129_9 : Fa Try.prog 129 9 9 := fun _ _ _ => by kernel_rfl
theorem fa129_10 : Fa Try.prog 129 10 10 := fun _ _ _ => by kernel_rfl
theorem ze129 : Ze Try.prog 129 [.int .u64 0, .int .u64 0, .int .u32 0, .int .u8 0, .int .u8 0, .int .u8 0, .int .u8 0, .nilFunc, .pointer none, .int .i32 0, .int .i32 0] := ⟨.agg #[.int .u64 0, .int .u64 0, .int .u32 0, .int .u8 0, .int .u8 0, .int .u8 0, .int .u8 0, .nilFunc, .pointer none, .int .i32 0, .int .i32 0], rfl, fun _ => by kernel_rfl⟩
theorem ca3 : Ca Try.prog 3 := fun _ _ => by kernel_rfl
theorem ca4 : Ca Try.prog 4 := fun _ _ => by kernel_rfl
theorem ca5 : Ca Try.prog 5 := fun _ _ => by kernel_rfl
theorem ca6 : Ca Try.prog 6 := fun _ _ => by kernel_rfl
theorem ca7 : Ca Try.prog 7 := fun _ _ => by kernel_rfl
theorem ca8 : Ca Try.prog 8 := fun _ _ => by kernel_rfl
theorem ca9 : Ca Try.prog 9 := fun _ _ => by kernel_rfl
theorem ca10 : Ca Try.prog 10 := fun _ _ => by kernel_rfl
theorem ca11 : Ca Try.prog 11 := fun _ _ => by kernel_rfl
theorem ca12 : Ca Try.prog 12 := fun _ _ => by kernel_rfl
theorem ca13 : Ca Try.prog 13 := fun _ _ => by kernel_rfl
theorem ca14 : Ca Try.prog 14 := fun _ _ => by kernel_rfl
theorem ca15 : Ca Try.prog 15 := fun _ _ => by kernel_rfl
theorem ca16 : Ca Try.prog 16 := fun _ _ => by kernel_rfl
theorem ca17 : Ca Try.prog 17 := fun _ _ => by kernel_rfl
theorem ca18 : Ca Try.prog 18 := fun _ _ => by kernel_rfl
theorem ca19 : Ca Try.prog 19 := fun _ _ => by kernel_rfl
theorem ca20 : Ca Try.prog 20 := fun _ _ => by kernel_rfl
theorem ca21 : Ca Try.prog 21 := fun _ _ => by kernel_rfl
theorem ca22 : Ca Try.prog 22 := fun _ _ => by kernel_rfl
theorem ca23 : Ca Try.prog 23 := fun _ _ => by kernel_rfl
theorem ca24 : Ca Try.prog 24 := fun _ _ => by kernel_rfl
theorem ca25 : Ca Try.prog 25 := fun _ _ => by kernel_rfl
theorem ca26 : Ca Try.prog 26 := fun _ _ => by kernel_rfl
theorem ca27 : Ca Try.prog 27 := fun _ _ => by kernel_rfl
theorem ca28 : Ca Try.prog 28 := fun _ _ => by kernel_rfl
theorem ca29 : Ca Try.prog 29 := fun _ _ => by kernel_rfl
theorem ca30 : Ca Try.prog 30 := fun _ _ => by kernel_rfl
theorem ca31 : Ca Try.prog 31 := fun _ _ => by kernel_rfl
theorem ca32 : Ca Try.prog 32 := fun _ _ => by kernel_rfl
theorem ca33 : Ca Try.prog 33 := fun _ _ => by kernel_rfl
theorem ca34 : Ca Try.prog 34 := fun _ _ => by kernel_rfl
theorem ca35 : Ca Try.prog 35 := fun _ _ => by kernel_rfl
theorem ca36 : Ca Try.prog 36 := fun _ _ => by kernel_rfl
theorem ca37 : Ca Try.prog 37 := fun _ _ => by kernel_rfl
theorem ca38 : Ca Try.prog 38 := fun _ _ => by kernel_rfl
theorem ca39 : Ca Try.prog 39 := fun _ _ => by kernel_rfl
theorem ca40 : Ca Try.prog 40 := fun _ _ => by kernel_rfl
theorem ca41 : Ca Try.prog 41 := fun _ _ => by kernel_rfl
theorem ca42 : Ca Try.prog 42 := fun _ _ => by kernel_rfl
theorem ca43 : Ca Try.prog 43 := fun _ _ => by kernel_rfl
theorem ca44 : Ca Try.prog 44 := fun _ _ => by kernel_rfl
theorem ca45 : Ca Try.prog 45 := fun _ _ => by kernel_rfl
theorem ca46 : Ca Try.prog 46 := fun _ _ => by kernel_rfl
theorem ca47 : Ca Try.prog 47 := fun _ _ => by kernel_rfl
theorem ca48 : Ca Try.prog 48 := fun _ _ => by kernel_rfl
theorem ca49 : Ca Try.prog 49 := fun _ _ => by kernel_rfl
theorem ca50 : Ca Try.prog 50 := fun _ _ => by kernel_rfl
theorem ca51 : Ca Try.prog 51 := fun _ _ => by kernel_rfl
theorem ca52 : Ca Try.prog 52 := fun _ _ => by kernel_rfl
theorem ca53 : Ca Try.prog 53 := fun _ _ => by kernel_rfl
theorem ca54 : Ca Try.prog 54 := fun _ _ => by kernel_rfl
theorem ca55 : Ca Try.prog 55 := fun _ _ => by kernel_rfl
theorem ca56 : Ca Try.prog 56 := fun _ _ => by kernel_rfl
theorem ca57 : Ca Try.prog 57 := fun _ _ => by kernel_rfl
theorem ca58 : Ca Try.prog 58 := fun _ _ => by kernel_rfl
theorem ca59 : Ca Try.prog 59 := fun _ _ => by kernel_rfl
theorem ca60 : Ca Try.prog 60 := fun _ _ => by kernel_rfl
theorem ca61 : Ca Try.prog 61 := fun _ _ => by kernel_rfl
theorem ca62 : Ca Try.prog 62 := fun _ _ => by kernel_rfl
theorem ca63 : Ca Try.prog 63 := fun _ _ => by kernel_rfl
theorem ca64 : Ca Try.prog 64 := fun _ _ => by kernel_rfl
theorem ca65 : Ca Try.prog 65 := fun _ _ => by kernel_rfl
theorem ca66 : Ca Try.prog 66 := fun _ _ => by kernel_rfl
theorem ca67 : Ca Try.prog 67 := fun _ _ => by kernel_rfl
theorem ca68 : Ca Try.prog 68 := fun _ _ => by kernel_rfl
theorem ca69 : Ca Try.prog 69 := fun _ _ => by kernel_rfl
theorem ca70 : Ca Try.prog 70 := fun _ _ => by kernel_rfl
theorem ca71 : Ca Try.prog 71 := fun _ _ => by kernel_rfl
theorem ca72 : Ca Try.prog 72 := fun _ _ => by kernel_rfl
theorem ca73 : Ca Try.prog 73 := fun _ _ => by kernel_rfl
theorem ca74 : Ca Try.prog 74 := fun _ _ => by kernel_rfl
theorem ca75 : Ca Try.prog 75 := fun _ _ => by kernel_rfl
theorem ca76 : Ca Try.prog 76 := fun _ _ => by kernel_rfl
theorem ca77 : Ca Try.prog 77 := fun _ _ => by kernel_rfl
theorem ca78 : Ca Try.prog 78 := fun _ _ => by kernel_rfl
theorem ca79 : Ca Try.prog 79 := fun _ _ => by kernel_rfl
theorem ca80 : Ca Try.prog 80 := fun _ _ => by kernel_rfl
theorem ca81 : Ca Try.prog 81 := fun _ _ => by kernel_rfl
theorem ca82 : Ca Try.prog 82 := fun _ _ => by kernel_rfl
theorem ca83 : Ca Try.prog 83 := fun _ _ => by kernel_rfl
theorem ca84 : Ca Try.prog 84 := fun _ _ => by kernel_rfl
theorem ca85 : Ca Try.prog 85 := fun _ _ => by kernel_rfl
theorem ca86 : Ca Try.prog 86 := fun _ _ => by kernel_rfl
theorem ca87 : Ca Try.prog 87 := fun _ _ => by kernel_rfl
theorem mixed : Try.prog.follows .mixedOrders = true := by kernel_rfl
end Go.Proofs.Ytgnpffbgfmeinaa
