/-
  Facts on the types and functions of this seat's program, by a program of this session's.
-/
import Derived.Test.YtlahbmoebbflbaaProg
import Derived.Test.YtlahbmoebbflbaaHwC
import Derived.KernelRfl
set_option linter.unusedSimpArgs false
namespace Go.Proofs.Ytlahbmoebbflbaa
open Go Go.Proofs.Ytlahbmoebbflbaa.Hw
theorem sc0 : Sc Try.prog 0 := ⟨fun _ => by kernel_rfl, fun _ => by kernel_rfl⟩
theorem sc1 : Sc Try.prog 1 := ⟨fun _ => by kernel_rfl, fun _ => by kernel_rfl⟩
theorem ze1 : Ze Try.prog 1 [.nilFunc] := ⟨.nilFunc, rfl, fun _ => by kernel_rfl⟩
theorem sc2 : Sc Try.prog 2 := ⟨fun _ => by kernel_rfl, fun _ => by kernel_rfl⟩
theorem ze2 : Ze Try.prog 2 [.int .i64 0] := ⟨.int .i64 0, rfl, fun _ => by kernel_rfl⟩
theorem sc3 : Sc Try.prog 3 := ⟨fun _ => by kernel_rfl, fun _ => by kernel_rfl⟩
theorem ze3 : Ze Try.prog 3 [.int .i64 0] := ⟨.int .i64 0, rfl, fun _ => by kernel_rfl⟩
theorem sc4 : Sc Try.prog 4 := ⟨fun _ => by kernel_rfl, fun _ => by kernel_rfl⟩
theorem ze4 : Ze Try.prog 4 [.bool false] := ⟨.bool false, rfl, fun _ => by kernel_rfl⟩
theorem sc5 : Sc Try.prog 5 := ⟨fun _ => by kernel_rfl, fun _ => by kernel_rfl⟩
theorem ze5 : Ze Try.prog 5 [.int .u8 0] := ⟨.int .u8 0, rfl, fun _ => by kernel_rfl⟩
theorem sc6 : Sc Try.prog 6 := ⟨fun _ => by kernel_rfl, fun _ => by kernel_rfl⟩
theorem ze6 : Ze Try.prog 6 [.int .u8 0] := ⟨.int .u8 0, rfl, fun _ => by kernel_rfl⟩
theorem ag7 : Ag Try.prog 7 4 := ⟨fun _ => by kernel_rfl, fun _ => by kernel_rfl⟩
theorem fa7_0 : Fa Try.prog 7 0 0 := fun _ _ _ => by kernel_rfl
theorem fa7_1 : Fa Try.prog 7 1 1 := fun _ _ _ => by kernel_rfl
theorem fa7_2 : Fa Try.prog 7 2 2 := fun _ _ _ => by kernel_rfl
theorem fa7_3 : Fa Try.prog 7 3 3 := fun _ _ _ => by kernel_rfl
theorem ze7 : Ze Try.prog 7 [.int .i64 0, .int .i64 0, .bool false, .int .u8 0] := ⟨.agg #[.int .i64 0, .int .i64 0, .bool false, .int .u8 0], rfl, fun _ => by kernel_rfl⟩
theorem ag8 : Ag Try.prog 8 4 := ⟨fun _ => by kernel_rfl, fun _ => by kernel_rfl⟩
theorem fa8_0 : Fa Try.prog 8 0 0 := fun _ _ _ => by kernel_rfl
theorem fa8_1 : Fa Try.prog 8 1 1 := fun _ _ _ => by kernel_rfl
theorem fa8_2 : Fa Try.prog 8 2 2 := fun _ _ _ => by kernel_rfl
theorem fa8_3 : Fa Try.prog 8 3 3 := fun _ _ _ => by kernel_rfl
theorem ze8 : Ze Try.prog 8 [.int .i64 0, .int .i64 0, .bool false, .int .u8 0] := ⟨.agg #[.int .i64 0, .int .i64 0, .bool false, .int .u8 0], rfl, fun _ => by kernel_rfl⟩
theorem sc9 : Sc Try.prog 9 := ⟨fun _ => by kernel_rfl, fun _ => by kernel_rfl⟩
theorem ze9 : Ze Try.prog 9 [.string ⟨#[]⟩] := ⟨.string ⟨#[]⟩, rfl, fun _ => by kernel_rfl⟩
theorem sc10 : Sc Try.prog 10 := ⟨fun _ => by kernel_rfl, fun _ => by kernel_rfl⟩
theorem ze10 : Ze Try.prog 10 [.string ⟨#[]⟩] := ⟨.string ⟨#[]⟩, rfl, fun _ => by kernel_rfl⟩
theorem sc11 : Sc Try.prog 11 := ⟨fun _ => by kernel_rfl, fun _ => by kernel_rfl⟩
theorem ze11 : Ze Try.prog 11 [.string ⟨#[]⟩] := ⟨.string ⟨#[]⟩, rfl, fun _ => by kernel_rfl⟩
theorem sc12 : Sc Try.prog 12 := ⟨fun _ => by kernel_rfl, fun _ => by kernel_rfl⟩
theorem ze12 : Ze Try.prog 12 [.int .u64 0] := ⟨.int .u64 0, rfl, fun _ => by kernel_rfl⟩
theorem ag13 : Ag Try.prog 13 2 := ⟨fun _ => by kernel_rfl, fun _ => by kernel_rfl⟩
theorem fa13_0 : Fa Try.prog 13 0 0 := fun _ _ _ => by kernel_rfl
theorem fa13_1 : Fa Try.prog 13 1 1 := fun _ _ _ => by kernel_rfl
theorem ze13 : Ze Try.prog 13 [.string ⟨#[]⟩, .int .u64 0] := ⟨.agg #[.string ⟨#[]⟩, .int .u64 0], rfl, fun _ => by kernel_rfl⟩
theorem ag14 : Ag Try.prog 14 2 := ⟨fun _ => by kernel_rfl, fun _ => by kernel_rfl⟩
theorem fa14_0 : Fa Try.prog 14 0 0 := fun _ _ _ => by kernel_rfl
theorem fa14_1 : Fa Try.prog 14 1 1 := fun _ _ _ => by kernel_rfl
theorem ze14 : Ze Try.prog 14 [.string ⟨#[]⟩, .int .u64 0] := ⟨.agg #[.string ⟨#[]⟩, .int .u64 0], rfl, fun _ => by kernel_rfl⟩
theorem sc15 : Sc Try.prog 15 := ⟨fun _ => by kernel_rfl, fun _ => by kernel_rfl⟩
theorem ze15 : Ze Try.prog 15 [.pointer none] := ⟨.pointer none, rfl, fun _ => by kernel_rfl⟩
theorem sc16 : Sc Try.prog 16 := ⟨fun _ => by kernel_rfl, fun _ => by kernel_rfl⟩
theorem ze16 : Ze Try.prog 16 [.pointer none] := ⟨.pointer none, rfl, fun _ => by kernel_rfl⟩
theorem sc17 : Sc Try.prog 17 := ⟨fun _ => by kernel_rfl, fun _ => by kernel_rfl⟩
theorem ze17 : Ze Try.prog 17 [.pointer none] := ⟨.pointer none, rfl, fun _ => by kernel_rfl⟩
theorem ag18 : Ag Try.prog 18 1 := ⟨fun _ => by kernel_rfl, fun _ => by kernel_rfl⟩
theorem fa18_0 : Fa Try.prog 18 0 0 := fun _ _ _ => by kernel_rfl
theorem ze18 : Ze Try.prog 18 [.pointer none] := ⟨.agg #[.pointer none], rfl, fun _ => by kernel_rfl⟩
theorem ag19 : Ag Try.prog 19 1 := ⟨fun _ => by kernel_rfl, fun _ => by kernel_rfl⟩
theorem fa19_0 : Fa Try.prog 19 0 0 := fun _ _ _ => by kernel_rfl
theorem ze19 : Ze Try.prog 19 [.pointer none] := ⟨.agg #[.pointer none], rfl, fun _ => by kernel_rfl⟩
theorem sc20 : Sc Try.prog 20 := ⟨fun _ => by kernel_rfl, fun _ => by kernel_rfl⟩
theorem ze20 : Ze Try.prog 20 [.nilIface] := ⟨.nilIface, rfl, fun _ => by kernel_rfl⟩
theorem sc21 : Sc Try.prog 21 := ⟨fun _ => by kernel_rfl, fun _ => by kernel_rfl⟩
theorem ze21 : Ze Try.prog 21 [.int .i32 0] := ⟨.int .i32 0, rfl, fun _ => by kernel_rfl⟩
theorem sc22 : Sc Try.prog 22 := ⟨fun _ => by kernel_rfl, fun _ => by kernel_rfl⟩
theorem ze22 : Ze Try.prog 22 [.int .u64 0] := ⟨.int .u64 0, rfl, fun _ => by kernel_rfl⟩
theorem sc23 : Sc Try.prog 23 := ⟨fun _ => by kernel_rfl, fun _ => by kernel_rfl⟩
theorem ze23 : Ze Try.prog 23 [.slice none 0 0] := ⟨.slice none 0 0, rfl, fun _ => by kernel_rfl⟩
theorem sc24 : Sc Try.prog 24 := ⟨fun _ => by kernel_rfl, fun _ => by kernel_rfl⟩
theorem ze24 : Ze Try.prog 24 [.pointer none] := ⟨.pointer none, rfl, fun _ => by kernel_rfl⟩
theorem sc25 : Sc Try.prog 25 := ⟨fun _ => by kernel_rfl, fun _ => by kernel_rfl⟩
theorem ze25 : Ze Try.prog 25 [.int .i64 0] := ⟨.int .i64 0, rfl, fun _ => by kernel_rfl⟩
theorem sc26 : Sc Try.prog 26 := ⟨fun _ => by kernel_rfl, fun _ => by kernel_rfl⟩
theorem sc27 : Sc Try.prog 27 := ⟨fun _ => by kernel_rfl, fun _ => by kernel_rfl⟩
theorem ze27 : Ze Try.prog 27 [.nilFunc] := ⟨.nilFunc, rfl, fun _ => by kernel_rfl⟩
theorem sc28 : Sc Try.prog 28 := ⟨fun _ => by kernel_rfl, fun _ => by kernel_rfl⟩
theorem ze28 : Ze Try.prog 28 [.nilFunc] := ⟨.nilFunc, rfl, fun _ => by kernel_rfl⟩
theorem sc29 : Sc Try.prog 29 := ⟨fun _ => by kernel_rfl, fun _ => by kernel_rfl⟩
theorem ze29 : Ze Try.prog 29 [.nilFunc] := ⟨.nilFunc, rfl, fun _ => by kernel_rfl⟩
theorem sc30 : Sc Try.prog 30 := ⟨fun _ => by kernel_rfl, fun _ => by kernel_rfl⟩
theorem ze30 : Ze Try.prog 30 [.nilFunc] := ⟨.nilFunc, rfl, fun _ => by kernel_rfl⟩
theorem sc31 : Sc Try.prog 31 := ⟨fun _ => by kernel_rfl, fun _ => by kernel_rfl⟩
theorem ze31 : Ze Try.prog 31 [.nilFunc] := ⟨.nilFunc, rfl, fun _ => by kernel_rfl⟩
theorem sc32 : Sc Try.prog 32 := ⟨fun _ => by kernel_rfl, fun _ => by kernel_rfl⟩
theorem ze32 : Ze Try.prog 32 [.nilFunc] := ⟨.nilFunc, rfl, fun _ => by kernel_rfl⟩
theorem sc33 : Sc Try.prog 33 := ⟨fun _ => by kernel_rfl, fun _ => by kernel_rfl⟩
theorem ze33 : Ze Try.prog 33 [.slice none 0 0] := ⟨.slice none 0 0, rfl, fun _ => by kernel_rfl⟩
theorem sc34 : Sc Try.prog 34 := ⟨fun _ => by kernel_rfl, fun _ => by kernel_rfl⟩
theorem ze34 : Ze Try.prog 34 [.slice none 0 0] := ⟨.slice none 0 0, rfl, fun _ => by kernel_rfl⟩
theorem ag35 : Ag Try.prog 35 5 := ⟨fun _ => by kernel_rfl, fun _ => by kernel_rfl⟩
theorem fa35_0 : Fa Try.prog 35 0 0 := fun _ _ _ => by kernel_rfl
theorem fa35_1 : Fa Try.prog 35 1 1 := fun _ _ _ => by kernel_rfl
theorem fa35_2 : Fa Try.prog 35 2 2 := fun _ _ _ => by kernel_rfl
theorem fa35_3 : Fa Try.prog 35 3 3 := fun _ _ _ => by kernel_rfl
theorem fa35_4 : Fa Try.prog 35 4 4 := fun _ _ _ => by kernel_rfl
theorem ze35 : Ze Try.prog 35 [.int .i64 0, .int .u64 0, .slice none 0 0, .slice none 0 0, .int .i64 0] := ⟨.agg #[.int .i64 0, .int .u64 0, .slice none 0 0, .slice none 0 0, .int .i64 0], rfl, fun _ => by kernel_rfl⟩
theorem ag36 : Ag Try.prog 36 5 := ⟨fun _ => by kernel_rfl, fun _ => by kernel_rfl⟩
theorem fa36_0 : Fa Try.prog 36 0 0 := fun _ _ _ => by kernel_rfl
theorem fa36_1 : Fa Try.prog 36 1 1 := fun _ _ _ => by kernel_rfl
theorem fa36_2 : Fa Try.prog 36 2 2 := fun _ _ _ => by kernel_rfl
theorem fa36_3 : Fa Try.prog 36 3 3 := fun _ _ _ => by kernel_rfl
theorem fa36_4 : Fa Try.prog 36 4 4 := fun _ _ _ => by kernel_rfl
theorem ze36 : Ze Try.prog 36 [.int .i64 0, .int .u64 0, .slice none 0 0, .slice none 0 0, .int .i64 0] := ⟨.agg #[.int .i64 0, .int .u64 0, .slice none 0 0, .slice none 0 0, .int .i64 0], rfl, fun _ => by kernel_rfl⟩
theorem sc37 : Sc Try.prog 37 := ⟨fun _ => by kernel_rfl, fun _ => by kernel_rfl⟩
theorem sc38 : Sc Try.prog 38 := ⟨fun _ => by kernel_rfl, fun _ => by kernel_rfl⟩
theorem ze38 : Ze Try.prog 38 [.nilFunc] := ⟨.nilFunc, rfl, fun _ => by kernel_rfl⟩
theorem sc39 : Sc Try.prog 39 := ⟨fun _ => by kernel_rfl, fun _ => by kernel_rfl⟩
theorem ze39 : Ze Try.prog 39 [.nilFunc] := ⟨.nilFunc, rfl, fun _ => by kernel_rfl⟩
theorem sc40 : Sc Try.prog 40 := ⟨fun _ => by kernel_rfl, fun _ => by kernel_rfl⟩
theorem ze40 : Ze Try.prog 40 [.nilFunc] := ⟨.nilFunc, rfl, fun _ => by kernel_rfl⟩
theorem sc41 : Sc Try.prog 41 := ⟨fun _ => by kernel_rfl, fun _ => by kernel_rfl⟩
theorem ze41 : Ze Try.prog 41 [.nilFunc] := ⟨.nilFunc, rfl, fun _ => by kernel_rfl⟩
theorem sc42 : Sc Try.prog 42 := ⟨fun _ => by kernel_rfl, fun _ => by kernel_rfl⟩
theorem ze42 : Ze Try.prog 42 [.nilFunc] := ⟨.nilFunc, rfl, fun _ => by kernel_rfl⟩
theorem sc43 : Sc Try.prog 43 := ⟨fun _ => by kernel_rfl, fun _ => by kernel_rfl⟩
theorem ze43 : Ze Try.prog 43 [.nilFunc] := ⟨.nilFunc, rfl, fun _ => by kernel_rfl⟩
theorem sc44 : Sc Try.prog 44 := ⟨fun _ => by kernel_rfl, fun _ => by kernel_rfl⟩
theorem ze44 : Ze Try.prog 44 [.nilFunc] := ⟨.nilFunc, rfl, fun _ => by kernel_rfl⟩
theorem sc45 : Sc Try.prog 45 := ⟨fun _ => by kernel_rfl, fun _ => by kernel_rfl⟩
theorem ze45 : Ze Try.prog 45 [.nilFunc] := ⟨.nilFunc, rfl, fun _ => by kernel_rfl⟩
theorem sc46 : Sc Try.prog 46 := ⟨fun _ => by kernel_rfl, fun _ => by kernel_rfl⟩
theorem ze46 : Ze Try.prog 46 [.nilFunc] := ⟨.nilFunc, rfl, fun _ => by kernel_rfl⟩
theorem sc47 : Sc Try.prog 47 := ⟨fun _ => by kernel_rfl, fun _ => by kernel_rfl⟩
theorem ze47 : Ze Try.prog 47 [.pointer none] := ⟨.pointer none, rfl, fun _ => by kernel_rfl⟩
theorem sc48 : Sc Try.prog 48 := ⟨fun _ => by kernel_rfl, fun _ => by kernel_rfl⟩
theorem sc49 : Sc Try.prog 49 := ⟨fun _ => by kernel_rfl, fun _ => by kernel_rfl⟩
theorem ze49 : Ze Try.prog 49 [.nilFunc] := ⟨.nilFunc, rfl, fun _ => by kernel_rfl⟩
theorem sc50 : Sc Try.prog 50 := ⟨fun _ => by kernel_rfl, fun _ => by kernel_rfl⟩
theorem ze50 : Ze Try.prog 50 [.nilFunc] := ⟨.nilFunc, rfl, fun _ => by kernel_rfl⟩
theorem sc51 : Sc Try.prog 51 := ⟨fun _ => by kernel_rfl, fun _ => by kernel_rfl⟩
theorem ze51 : Ze Try.prog 51 [.nilFunc] := ⟨.nilFunc, rfl, fun _ => by kernel_rfl⟩
theorem sc52 : Sc Try.prog 52 := ⟨fun _ => by kernel_rfl, fun _ => by kernel_rfl⟩
theorem ze52 : Ze Try.prog 52 [.nilFunc] := ⟨.nilFunc, rfl, fun _ => by kernel_rfl⟩
theorem sc53 : Sc Try.prog 53 := ⟨fun _ => by kernel_rfl, fun _ => by kernel_rfl⟩
theorem ze53 : Ze Try.prog 53 [.nilFunc] := ⟨.nilFunc, rfl, fun _ => by kernel_rfl⟩
theorem sc54 : Sc Try.prog 54 := ⟨fun _ => by kernel_rfl, fun _ => by kernel_rfl⟩
theorem ze54 : Ze Try.prog 54 [.slice none 0 0] := ⟨.slice none 0 0, rfl, fun _ => by kernel_rfl⟩
theorem ag55 : Ag Try.prog 55 2 := ⟨fun _ => by kernel_rfl, fun _ => by kernel_rfl⟩
theorem fa55_0 : Fa Try.prog 55 0 0 := fun _ _ _ => by kernel_rfl
theorem fa55_1 : Fa Try.prog 55 1 1 := fun _ _ _ => by kernel_rfl
theorem ze55 : Ze Try.prog 55 [.int .i64 0, .int .i64 0] := ⟨.agg #[.int .i64 0, .int .i64 0], rfl, fun _ => by kernel_rfl⟩
theorem ag56 : Ag Try.prog 56 2 := ⟨fun _ => by kernel_rfl, fun _ => by kernel_rfl⟩
theorem fa56_0 : Fa Try.prog 56 0 0 := fun _ _ _ => by kernel_rfl
theorem fa56_1 : Fa Try.prog 56 1 1 := fun _ _ _ => by kernel_rfl
theorem ze56 : Ze Try.prog 56 [.int .i64 0, .int .i64 0] := ⟨.agg #[.int .i64 0, .int .i64 0], rfl, fun _ => by kernel_rfl⟩
theorem sc57 : Sc Try.prog 57 := ⟨fun _ => by kernel_rfl, fun _ => by kernel_rfl⟩
theorem ze57 : Ze Try.prog 57 [.nilFunc] := ⟨.nilFunc, rfl, fun _ => by kernel_rfl⟩
theorem sc58 : Sc Try.prog 58 := ⟨fun _ => by kernel_rfl, fun _ => by kernel_rfl⟩
theorem sc59 : Sc Try.prog 59 := ⟨fun _ => by kernel_rfl, fun _ => by kernel_rfl⟩
theorem ze59 : Ze Try.prog 59 [.nilFunc] := ⟨.nilFunc, rfl, fun _ => by kernel_rfl⟩
theorem ag60 : Ag Try.prog 60 2 := ⟨fun _ => by kernel_rfl, fun _ => by kernel_rfl⟩
theorem fa60_0 : Fa Try.prog 60 0 0 := fun _ _ _ => by kernel_rfl
theorem fa60_1 : Fa Try.prog 60 1 1 := fun _ _ _ => by kernel_rfl
theorem ze60 : Ze Try.prog 60 [.int .i64 0, .string ⟨#[]⟩] := ⟨.agg #[.int .i64 0, .string ⟨#[]⟩], rfl, fun _ => by kernel_rfl⟩
theorem ag61 : Ag Try.prog 61 2 := ⟨fun _ => by kernel_rfl, fun _ => by kernel_rfl⟩
theorem fa61_0 : Fa Try.prog 61 0 0 := fun _ _ _ => by kernel_rfl
theorem fa61_1 : Fa Try.prog 61 1 1 := fun _ _ _ => by kernel_rfl
theorem ze61 : Ze Try.prog 61 [.int .i64 0, .string ⟨#[]⟩] := ⟨.agg #[.int .i64 0, .string ⟨#[]⟩], rfl, fun _ => by kernel_rfl⟩
theorem sc62 : Sc Try.prog 62 := ⟨fun _ => by kernel_rfl, fun _ => by kernel_rfl⟩
theorem sc63 : Sc Try.prog 63 := ⟨fun _ => by kernel_rfl, fun _ => by kernel_rfl⟩
theorem ze63 : Ze Try.prog 63 [.nilFunc] := ⟨.nilFunc, rfl, fun _ => by kernel_rfl⟩
theorem ag64 : Ag Try.prog 64 3 := ⟨fun _ => by kernel_rfl, fun _ => by kernel_rfl⟩
theorem ze64 : Ze Try.prog 64 [.slice none 0 0, .slice none 0 0, .slice none 0 0] := ⟨.agg #[.slice none 0 0, .slice none 0 0, .slice none 0 0], rfl, fun _ => by kernel_rfl⟩
theorem sc65 : Sc Try.prog 65 := ⟨fun _ => by kernel_rfl, fun _ => by kernel_rfl⟩
theorem ze65 : Ze Try.prog 65 [.nilFunc] := ⟨.nilFunc, rfl, fun _ => by kernel_rfl⟩
theorem sc66 : Sc Try.prog 66 := ⟨fun _ => by kernel_rfl, fun _ => by kernel_rfl⟩
theorem ze66 : Ze Try.prog 66 [.nilFunc] := ⟨.nilFunc, rfl, fun _ => by kernel_rfl⟩
theorem sc67 : Sc Try.prog 67 := ⟨fun _ => by kernel_rfl, fun _ => by kernel_rfl⟩
theorem ze67 : Ze Try.prog 67 [.slice none 0 0] := ⟨.slice none 0 0, rfl, fun _ => by kernel_rfl⟩
theorem ag68 : Ag Try.prog 68 4 := ⟨fun _ => by kernel_rfl, fun _ => by kernel_rfl⟩
theorem ze68 : Ze Try.prog 68 [.slice none 0 0, .slice none 0 0, .slice none 0 0, .slice none 0 0] := ⟨.agg #[.slice none 0 0, .slice none 0 0, .slice none 0 0, .slice none 0 0], rfl, fun _ => by kernel_rfl⟩
theorem ag69 : Ag Try.prog 69 8 := ⟨fun _ => by kernel_rfl, fun _ => by kernel_rfl⟩
theorem fa69_0 : Fa Try.prog 69 0 0 := fun _ _ _ => by kernel_rfl
theorem fa69_1 : Fa Try.prog 69 1 1 := fun _ _ _ => by kernel_rfl
theorem fa69_2 : Fa Try.prog 69 2 2 := fun _ _ _ => by kernel_rfl
theorem fa69_3 : Fa Try.prog 69 3 6 := fun _ _ _ => by kernel_rfl
theorem fa69_4 : Fa Try.prog 69 4 7 := fun _ _ _ => by kernel_rfl
theorem ze69 : Ze Try.prog 69 [.int .i64 0, .int .u64 0, .slice none 0 0, .slice none 0 0, .slice none 0 0, .slice none 0 0, .slice none 0 0, .int .i64 0] := ⟨.agg #[.int .i64 0, .int .u64 0, .slice none 0 0, .slice none 0 0, .slice none 0 0, .slice none 0 0, .slice none 0 0, .int .i64 0], rfl, fun _ => by kernel_rfl⟩
theorem ag70 : Ag Try.prog 70 8 := ⟨fun _ => by kernel_rfl, fun _ => by kernel_rfl⟩
theorem fa70_0 : Fa Try.prog 70 0 0 := fun _ _ _ => by kernel_rfl
theorem fa70_1 : Fa Try.prog 70 1 1 := fun _ _ _ => by kernel_rfl
theorem fa70_2 : Fa Try.prog 70 2 2 := fun _ _ _ => by kernel_rfl
theorem fa70_3 : Fa Try.prog 70 3 6 := fun _ _ _ => by kernel_rfl
theorem fa70_4 : Fa Try.prog 70 4 7 := fun _ _ _ => by kernel_rfl
theorem ze70 : Ze Try.prog 70 [.int .i64 0, .int .u64 0, .slice none 0 0, .slice none 0 0, .slice none 0 0, .slice none 0 0, .slice none 0 0, .int .i64 0] := ⟨.agg #[.int .i64 0, .int .u64 0, .slice none 0 0, .slice none 0 0, .slice none 0 0, .slice none 0 0, .slice none 0 0, .int .i64 0], rfl, fun _ => by kernel_rfl⟩
theorem sc71 : Sc Try.prog 71 := ⟨fun _ => by kernel_rfl, fun _ => by kernel_rfl⟩
theorem ze71 : Ze Try.prog 71 [.nilFunc] := ⟨.nilFunc, rfl, fun _ => by kernel_rfl⟩
theorem sc72 : Sc Try.prog 72 := ⟨fun _ => by kernel_rfl, fun _ => by kernel_rfl⟩
theorem ze72 : Ze Try.prog 72 [.nilFunc] := ⟨.nilFunc, rfl, fun _ => by kernel_rfl⟩
theorem sc73 : Sc Try.prog 73 := ⟨fun _ => by kernel_rfl, fun _ => by kernel_rfl⟩
theorem ze73 : Ze Try.prog 73 [.nilFunc] := ⟨.nilFunc, rfl, fun _ => by kernel_rfl⟩
theorem sc74 : Sc Try.prog 74 := ⟨fun _ => by kernel_rfl, fun _ => by kernel_rfl⟩
theorem ze74 : Ze Try.prog 74 [.slice none 0 0] := ⟨.slice none 0 0, rfl, fun _ => by kernel_rfl⟩
theorem sc75 : Sc Try.prog 75 := ⟨fun _ => by kernel_rfl, fun _ => by kernel_rfl⟩
theorem ze75 : Ze Try.prog 75 [.nilFunc] := ⟨.nilFunc, rfl, fun _ => by kernel_rfl⟩
theorem sc76 : Sc Try.prog 76 := ⟨fun _ => by kernel_rfl, fun _ => by kernel_rfl⟩
theorem ze76 : Ze Try.prog 76 [.nilFunc] := ⟨.nilFunc, rfl, fun _ => by kernel_rfl⟩
theorem sc77 : Sc Try.prog 77 := ⟨fun _ => by kernel_rfl, fun _ => by kernel_rfl⟩
theorem ze77 : Ze Try.prog 77 [.nilFunc] := ⟨.nilFunc, rfl, fun _ => by kernel_rfl⟩
theorem sc78 : Sc Try.prog 78 := ⟨fun _ => by kernel_rfl, fun _ => by kernel_rfl⟩
theorem ze78 : Ze Try.prog 78 [.pointer none] := ⟨.pointer none, rfl, fun _ => by kernel_rfl⟩
theorem sc79 : Sc Try.prog 79 := ⟨fun _ => by kernel_rfl, fun _ => by kernel_rfl⟩
theorem ze79 : Ze Try.prog 79 [.nilFunc] := ⟨.nilFunc, rfl, fun _ => by kernel_rfl⟩
theorem sc80 : Sc Try.prog 80 := ⟨fun _ => by kernel_rfl, fun _ => by kernel_rfl⟩
theorem ze80 : Ze Try.prog 80 [.nilFunc] := ⟨.nilFunc, rfl, fun _ => by kernel_rfl⟩
theorem sc81 : Sc Try.prog 81 := ⟨fun _ => by kernel_rfl, fun _ => by kernel_rfl⟩
theorem ze81 : Ze Try.prog 81 [.nilFunc] := ⟨.nilFunc, rfl, fun _ => by kernel_rfl⟩
theorem sc82 : Sc Try.prog 82 := ⟨fun _ => by kernel_rfl, fun _ => by kernel_rfl⟩
theorem ze82 : Ze Try.prog 82 [.pointer none] := ⟨.pointer none, rfl, fun _ => by kernel_rfl⟩
theorem sc83 : Sc Try.prog 83 := ⟨fun _ => by kernel_rfl, fun _ => by kernel_rfl⟩
theorem sc84 : Sc Try.prog 84 := ⟨fun _ => by kernel_rfl, fun _ => by kernel_rfl⟩
theorem ze84 : Ze Try.prog 84 [.nilFunc] := ⟨.nilFunc, rfl, fun _ => by kernel_rfl⟩
theorem ag85 : Ag Try.prog 85 3 := ⟨fun _ => by kernel_rfl, fun _ => by kernel_rfl⟩
theorem fa85_0 : Fa Try.prog 85 0 0 := fun _ _ _ => by kernel_rfl
theorem fa85_1 : Fa Try.prog 85 1 1 := fun _ _ _ => by kernel_rfl
theorem fa85_2 : Fa Try.prog 85 2 2 := fun _ _ _ => by kernel_rfl
theorem ze85 : Ze Try.prog 85 [.int .i64 0, .pointer none, .pointer none] := ⟨.agg #[.int .i64 0, .pointer none, .pointer none], rfl, fun _ => by kernel_rfl⟩
theorem ag86 : Ag Try.prog 86 3 := ⟨fun _ => by kernel_rfl, fun _ => by kernel_rfl⟩
theorem fa86_0 : Fa Try.prog 86 0 0 := fun _ _ _ => by kernel_rfl
theorem fa86_1 : Fa Try.prog 86 1 1 := fun _ _ _ => by kernel_rfl
theorem fa86_2 : Fa Try.prog 86 2 2 := fun _ _ _ => by kernel_rfl
theorem ze86 : Ze Try.prog 86 [.int .i64 0, .pointer none, .pointer none] := ⟨.agg #[.int .i64 0, .pointer none, .pointer none], rfl, fun _ => by kernel_rfl⟩
theorem sc87 : Sc Try.prog 87 := ⟨fun _ => by kernel_rfl, fun _ => by kernel_rfl⟩
theorem ze87 : Ze Try.prog 87 [.nilFunc] := ⟨.nilFunc, rfl, fun _ => by kernel_rfl⟩
theorem sc88 : Sc Try.prog 88 := ⟨fun _ => by kernel_rfl, fun _ => by kernel_rfl⟩
theorem sc89 : Sc Try.prog 89 := ⟨fun _ => by kernel_rfl, fun _ => by kernel_rfl⟩
theorem ze89 : Ze Try.prog 89 [.nilFunc] := ⟨.nilFunc, rfl, fun _ => by kernel_rfl⟩
theorem sc90 : Sc Try.prog 90 := ⟨fun _ => by kernel_rfl, fun _ => by kernel_rfl⟩
theorem ze90 : Ze Try.prog 90 [.nilFunc] := ⟨.nilFunc, rfl, fun _ => by kernel_rfl⟩
theorem sc91 : Sc Try.prog 91 := ⟨fun _ => by kernel_rfl, fun _ => by kernel_rfl⟩
theorem ze91 : Ze Try.prog 91 [.nilFunc] := ⟨.nilFunc, rfl, fun _ => by kernel_rfl⟩
theorem sc92 : Sc Try.prog 92 := ⟨fun _ => by kernel_rfl, fun _ => by kernel_rfl⟩
theorem ze92 : Ze Try.prog 92 [.nilFunc] := ⟨.nilFunc, rfl, fun _ => by kernel_rfl⟩
theorem sc93 : Sc Try.prog 93 := ⟨fun _ => by kernel_rfl, fun _ => by kernel_rfl⟩
theorem ze93 : Ze Try.prog 93 [.nilFunc] := ⟨.nilFunc, rfl, fun _ => by kernel_rfl⟩
theorem sc94 : Sc Try.prog 94 := ⟨fun _ => by kernel_rfl, fun _ => by kernel_rfl⟩
theorem ze94 : Ze Try.prog 94 [.nilFunc] := ⟨.nilFunc, rfl, fun _ => by kernel_rfl⟩
theorem sc95 : Sc Try.prog 95 := ⟨fun _ => by kernel_rfl, fun _ => by kernel_rfl⟩
theorem ze95 : Ze Try.prog 95 [.pointer none] := ⟨.pointer none, rfl, fun _ => by kernel_rfl⟩
theorem ag96 : Ag Try.prog 96 2 := ⟨fun _ => by kernel_rfl, fun _ => by kernel_rfl⟩
theorem fa96_0 : Fa Try.prog 96 0 0 := fun _ _ _ => by kernel_rfl
theorem fa96_1 : Fa Try.prog 96 1 1 := fun _ _ _ => by kernel_rfl
theorem ze96 : Ze Try.prog 96 [.pointer none, .slice none 0 0] := ⟨.agg #[.pointer none, .slice none 0 0], rfl, fun _ => by kernel_rfl⟩
theorem ag97 : Ag Try.prog 97 2 := ⟨fun _ => by kernel_rfl, fun _ => by kernel_rfl⟩
theorem fa97_0 : Fa Try.prog 97 0 0 := fun _ _ _ => by kernel_rfl
theorem fa97_1 : Fa Try.prog 97 1 1 := fun _ _ _ => by kernel_rfl
theorem ze97 : Ze Try.prog 97 [.pointer none, .slice none 0 0] := ⟨.agg #[.pointer none, .slice none 0 0], rfl, fun _ => by kernel_rfl⟩
theorem sc98 : Sc Try.prog 98 := ⟨fun _ => by kernel_rfl, fun _ => by kernel_rfl⟩
theorem ze98 : Ze Try.prog 98 [.nilIface] := ⟨.nilIface, rfl, fun _ => by kernel_rfl⟩
theorem sc99 : Sc Try.prog 99 := ⟨fun _ => by kernel_rfl, fun _ => by kernel_rfl⟩
theorem ze99 : Ze Try.prog 99 [.nilIface] := ⟨.nilIface, rfl, fun _ => by kernel_rfl⟩
theorem sc100 : Sc Try.prog 100 := ⟨fun _ => by kernel_rfl, fun _ => by kernel_rfl⟩
theorem ze100 : Ze Try.prog 100 [.nilFunc] := ⟨.nilFunc, rfl, fun _ => by kernel_rfl⟩
theorem ag101 : Ag Try.prog 101 1 := ⟨fun _ => by kernel_rfl, fun _ => by kernel_rfl⟩
theorem fa101_0 : Fa Try.prog 101 0 0 := fun _ _ _ => by kernel_rfl
theorem ze101 : Ze Try.prog 101 [.int .i64 0] := ⟨.agg #[.int .i64 0], rfl, fun _ => by kernel_rfl⟩
theorem ag102 : Ag Try.prog 102 1 := ⟨fun _ => by kernel_rfl, fun _ => by kernel_rfl⟩
theorem fa102_0 : Fa Try.prog 102 0 0 := fun _ _ _ => by kernel_rfl
theorem ze102 : Ze Try.prog 102 [.int .i64 0] := ⟨.agg #[.int .i64 0], rfl, fun _ => by kernel_rfl⟩
theorem ag103 : Ag Try.prog 103 1 := ⟨fun _ => by kernel_rfl, fun _ => by kernel_rfl⟩
theorem fa103_0 : Fa Try.prog 103 0 0 := fun _ _ _ => by kernel_rfl
theorem ze103 : Ze Try.prog 103 [.string ⟨#[]⟩] := ⟨.agg #[.string ⟨#[]⟩], rfl, fun _ => by kernel_rfl⟩
theorem ag104 : Ag Try.prog 104 1 := ⟨fun _ => by kernel_rfl, fun _ => by kernel_rfl⟩
theorem fa104_0 : Fa Try.prog 104 0 0 := fun _ _ _ => by kernel_rfl
theorem ze104 : Ze Try.prog 104 [.string ⟨#[]⟩] := ⟨.agg #[.string ⟨#[]⟩], rfl, fun _ => by kernel_rfl⟩
theorem sc105 : Sc Try.prog 105 := ⟨fun _ => by kernel_rfl, fun _ => by kernel_rfl⟩
theorem ze105 : Ze Try.prog 105 [.nilFunc] := ⟨.nilFunc, rfl, fun _ => by kernel_rfl⟩
theorem sc106 : Sc Try.prog 106 := ⟨fun _ => by kernel_rfl, fun _ => by kernel_rfl⟩
theorem ze106 : Ze Try.prog 106 [.nilFunc] := ⟨.nilFunc, rfl, fun _ => by kernel_rfl⟩
theorem sc107 : Sc Try.prog 107 := ⟨fun _ => by kernel_rfl, fun _ => by kernel_rfl⟩
theorem ze107 : Ze Try.prog 107 [.nilFunc] := ⟨.nilFunc, rfl, fun _ => by kernel_rfl⟩
theorem sc108 : Sc Try.prog 108 := ⟨fun _ => by kernel_rfl, fun _ => by kernel_rfl⟩
theorem ze108 : Ze Try.prog 108 [.map none] := ⟨.map none, rfl, fun _ => by kernel_rfl⟩
theorem sc109 : Sc Try.prog 109 := ⟨fun _ => by kernel_rfl, fun _ => by kernel_rfl⟩
theorem ze109 : Ze Try.prog 109 [.slice none 0 0] := ⟨.slice none 0 0, rfl, fun _ => by kernel_rfl⟩
theorem ag110 : Ag Try.prog 110 5 := ⟨fun _ => by kernel_rfl, fun _ => by kernel_rfl⟩
theorem fa110_0 : Fa Try.prog 110 0 0 := fun _ _ _ => by kernel_rfl
theorem fa110_1 : Fa Try.prog 110 1 1 := fun _ _ _ => by kernel_rfl
theorem fa110_2 : Fa Try.prog 110 2 2 := fun _ _ _ => by kernel_rfl
theorem fa110_3 : Fa Try.prog 110 3 3 := fun _ _ _ => by kernel_rfl
theorem fa110_4 : Fa Try.prog 110 4 4 := fun _ _ _ => by kernel_rfl
theorem ze110 : Ze Try.prog 110 [.int .i64 0, .slice none 0 0, .slice none 0 0, .map none, .slice none 0 0] := ⟨.agg #[.int .i64 0, .slice none 0 0, .slice none 0 0, .map none, .slice none 0 0], rfl, fun _ => by kernel_rfl⟩
theorem ag111 : Ag Try.prog 111 5 := ⟨fun _ => by kernel_rfl, fun _ => by kernel_rfl⟩
theorem fa111_0 : Fa Try.prog 111 0 0 := fun _ _ _ => by kernel_rfl
theorem fa111_1 : Fa Try.prog 111 1 1 := fun _ _ _ => by kernel_rfl
theorem fa111_2 : Fa Try.prog 111 2 2 := fun _ _ _ => by kernel_rfl
theorem fa111_3 : Fa Try.prog 111 3 3 := fun _ _ _ => by kernel_rfl
theorem fa111_4 : Fa Try.prog 111 4 4 := fun _ _ _ => by kernel_rfl
theorem ze111 : Ze Try.prog 111 [.int .i64 0, .slice none 0 0, .slice none 0 0, .map none, .slice none 0 0] := ⟨.agg #[.int .i64 0, .slice none 0 0, .slice none 0 0, .map none, .slice none 0 0], rfl, fun _ => by kernel_rfl⟩
theorem ag112 : Ag Try.prog 112 4 := ⟨fun _ => by kernel_rfl, fun _ => by kernel_rfl⟩
theorem fa112_0 : Fa Try.prog 112 0 0 := fun _ _ _ => by kernel_rfl
theorem fa112_1 : Fa Try.prog 112 1 1 := fun _ _ _ => by kernel_rfl
theorem fa112_2 : Fa Try.prog 112 2 2 := fun _ _ _ => by kernel_rfl
theorem fa112_3 : Fa Try.prog 112 3 3 := fun _ _ _ => by kernel_rfl
theorem ze112 : Ze Try.prog 112 [.string ⟨#[]⟩, .int .i64 0, .int .i64 0, .int .i64 0] := ⟨.agg #[.string ⟨#[]⟩, .int .i64 0, .int .i64 0, .int .i64 0], rfl, fun _ => by kernel_rfl⟩
theorem ag113 : Ag Try.prog 113 4 := ⟨fun _ => by kernel_rfl, fun _ => by kernel_rfl⟩
theorem fa113_0 : Fa Try.prog 113 0 0 := fun _ _ _ => by kernel_rfl
theorem fa113_1 : Fa Try.prog 113 1 1 := fun _ _ _ => by kernel_rfl
theorem fa113_2 : Fa Try.prog 113 2 2 := fun _ _ _ => by kernel_rfl
theorem fa113_3 : Fa Try.prog 113 3 3 := fun _ _ _ => by kernel_rfl
theorem ze113 : Ze Try.prog 113 [.string ⟨#[]⟩, .int .i64 0, .int .i64 0, .int .i64 0] := ⟨.agg #[.string ⟨#[]⟩, .int .i64 0, .int .i64 0, .int .i64 0], rfl, fun _ => by kernel_rfl⟩
theorem sc114 : Sc Try.prog 114 := ⟨fun _ => by kernel_rfl, fun _ => by kernel_rfl⟩
theorem ze114 : Ze Try.prog 114 [.nilFunc] := ⟨.nilFunc, rfl, fun _ => by kernel_rfl⟩
theorem sc115 : Sc Try.prog 115 := ⟨fun _ => by kernel_rfl, fun _ => by kernel_rfl⟩
theorem ze115 : Ze Try.prog 115 [.nilFunc] := ⟨.nilFunc, rfl, fun _ => by kernel_rfl⟩
theorem sc116 : Sc Try.prog 116 := ⟨fun _ => by kernel_rfl, fun _ => by kernel_rfl⟩
theorem ze116 : Ze Try.prog 116 [.nilFunc] := ⟨.nilFunc, rfl, fun _ => by kernel_rfl⟩
theorem sc117 : Sc Try.prog 117 := ⟨fun _ => by kernel_rfl, fun _ => by kernel_rfl⟩
theorem sc118 : Sc Try.prog 118 := ⟨fun _ => by kernel_rfl, fun _ => by kernel_rfl⟩
theorem ze118 : Ze Try.prog 118 [.nilFunc] := ⟨.nilFunc, rfl, fun _ => by kernel_rfl⟩
theorem sc119 : Sc Try.prog 119 := ⟨fun _ => by kernel_rfl, fun _ => by kernel_rfl⟩
theorem ze119 : Ze Try.prog 119 [.nilFunc] := ⟨.nilFunc, rfl, fun _ => by kernel_rfl⟩
theorem sc120 : Sc Try.prog 120 := ⟨fun _ => by kernel_rfl, fun _ => by kernel_rfl⟩
theorem ze120 : Ze Try.prog 120 [.pointer none] := ⟨.pointer none, rfl, fun _ => by kernel_rfl⟩
theorem sc121 : Sc Try.prog 121 := ⟨fun _ => by kernel_rfl, fun _ => by kernel_rfl⟩
theorem ze121 : Ze Try.prog 121 [.nilFunc] := ⟨.nilFunc, rfl, fun _ => by kernel_rfl⟩
theorem sc122 : Sc Try.prog 122 := ⟨fun _ => by kernel_rfl, fun _ => by kernel_rfl⟩
theorem ze122 : Ze Try.prog 122 [.pointer none] := ⟨.pointer none, rfl, fun _ => by kernel_rfl⟩
theorem sc123 : Sc Try.prog 123 := ⟨fun _ => by kernel_rfl, fun _ => by kernel_rfl⟩
theorem ze123 : Ze Try.prog 123 [.int .u64 0] := ⟨.int .u64 0, rfl, fun _ => by kernel_rfl⟩
theorem sc124 : Sc Try.prog 124 := ⟨fun _ => by kernel_rfl, fun _ => by kernel_rfl⟩
theorem ze124 : Ze Try.prog 124 [.nilFunc] := ⟨.nilFunc, rfl, fun _ => by kernel_rfl⟩
theorem sc125 : Sc Try.prog 125 := ⟨fun _ => by kernel_rfl, fun _ => by kernel_rfl⟩
theorem ze125 : Ze Try.prog 125 [.pointer none] := ⟨.pointer none, rfl, fun _ => by kernel_rfl⟩
theorem sc126 : Sc Try.prog 126 := ⟨fun _ => by kernel_rfl, fun _ => by kernel_rfl⟩
theorem ze126 : Ze Try.prog 126 [.nilFunc] := ⟨.nilFunc, rfl, fun _ => by kernel_rfl⟩
theorem ag127 : Ag Try.prog 127 4 := ⟨fun _ => by kernel_rfl, fun _ => by kernel_rfl⟩
theorem fa127_0 : Fa Try.prog 127 0 0 := fun _ _ _ => by kernel_rfl
theorem fa127_1 : Fa Try.prog 127 1 1 := fun _ _ _ => by kernel_rfl
theorem fa127_2 : Fa Try.prog 127 2 2 := fun _ _ _ => by kernel_rfl
theorem fa127_3 : Fa Try.prog 127 3 3 := fun _ _ _ => by kernel_rfl
theorem ze127 : Ze Try.prog 127 [.pointer none, .pointer none, .pointer none, .string ⟨#[]⟩] := ⟨.agg #[.pointer none, .pointer none, .pointer none, .string ⟨#[]⟩], rfl, fun _ => by kernel_rfl⟩
theorem ag128 : Ag Try.prog 128 4 := ⟨fun _ => by kernel_rfl, fun _ => by kernel_rfl⟩
theorem fa128_0 : Fa Try.prog 128 0 0 := fun _ _ _ => by kernel_rfl
theorem fa128_1 : Fa Try.prog 128 1 1 := fun _ _ _ => by kernel_rfl
theorem fa128_2 : Fa Try.prog 128 2 2 := fun _ _ _ => by kernel_rfl
theorem fa128_3 : Fa Try.prog 128 3 3 := fun _ _ _ => by kernel_rfl
theorem ze128 : Ze Try.prog 128 [.pointer none, .pointer none, .pointer none, .string ⟨#[]⟩] := ⟨.agg #[.pointer none, .pointer none, .pointer none, .string ⟨#[]⟩], rfl, fun _ => by kernel_rfl⟩
theorem ag129 : Ag Try.prog 129 0 := ⟨fun _ => by kernel_rfl, fun _ => by kernel_rfl⟩
theorem ze129 : Ze Try.prog 129 [] := ⟨.agg #[], rfl, fun _ => by kernel_rfl⟩
theorem ag130 : Ag Try.prog 130 0 := ⟨fun _ => by kernel_rfl, fun _ => by kernel_rfl⟩
theorem ze130 : Ze Try.prog 130 [] := ⟨.agg #[], rfl, fun _ => by kernel_rfl⟩
theorem ag131 : Ag Try.prog 131 0 := ⟨fun _ => by kernel_rfl, fun _ => by kernel_rfl⟩
theorem ze131 : Ze Try.prog 131 [] := ⟨.agg #[], rfl, fun _ => by kernel_rfl⟩
theorem sc132 : Sc Try.prog 132 := ⟨fun _ => by kernel_rfl, fun _ => by kernel_rfl⟩
theorem ze132 : Ze Try.prog 132 [.int .u32 0] := ⟨.int .u32 0, rfl, fun _ => by kernel_rfl⟩
theorem sc133 : Sc Try.prog 133 := ⟨fun _ => by kernel_rfl, fun _ => by kernel_rfl⟩
theorem ze133 : Ze Try.prog 133 [.int .u8 0] := ⟨.int .u8 0, rfl, fun _ => by kernel_rfl⟩
theorem sc134 : Sc Try.prog 134 := ⟨fun _ => by kernel_rfl, fun _ => by kernel_rfl⟩
theorem ze134 : Ze Try.prog 134 [.int .u8 0] := ⟨.int .u8 0, rfl, fun _ => by kernel_rfl⟩
theorem sc135 : Sc Try.prog 135 := ⟨fun _ => by kernel_rfl, fun _ => by kernel_rfl⟩
theorem ze135 : Ze Try.prog 135 [.nilFunc] := ⟨.nilFunc, rfl, fun _ => by kernel_rfl⟩
theorem sc136 : Sc Try.prog 136 := ⟨fun _ => by kernel_rfl, fun _ => by kernel_rfl⟩
theorem ze136 : Ze Try.prog 136 [.int .i32 0] := ⟨.int .i32 0, rfl, fun _ => by kernel_rfl⟩
theorem sc137 : Sc Try.prog 137 := ⟨fun _ => by kernel_rfl, fun _ => by kernel_rfl⟩
theorem ze137 : Ze Try.prog 137 [.int .i32 0] := ⟨.int .i32 0, rfl, fun _ => by kernel_rfl⟩
theorem ag138 : Ag Try.prog 138 11 := ⟨fun _ => by kernel_rfl, fun _ => by kernel_rfl⟩
theorem fa138_0 : Fa Try.prog 138 0 0 := fun _ _ _ => by kernel_rfl
theorem fa138_1 : Fa Try.prog 138 1 1 := fun _ _ _ => by kernel_rfl
theorem fa138_2 : Fa Try.prog 138 2 2 := fun _ _ _ => by kernel_rfl
theorem fa138_3 : Fa Try.prog 138 3 3 := fun _ _ _ => by kernel_rfl
theorem fa138_4 : Fa Try.prog 138 4 4 := fun _ _ _ => by kernel_rfl
theorem fa138_5 : Fa Try.prog 138 5 5 := fun _ _ _ => by kernel_rfl
theorem fa138_6 : Fa Try.prog 138 6 6 := fun _ _ _ => by kernel_rfl
theorem fa138_7 : Fa Try.prog 138 7 7 := fun _ _ _ => by kernel_rfl
theorem fa138_8 : Fa Try.prog 138 8 8 := fun _ _ _ => by kernel_rfl
theorem fa138_9 : Fa Try.prog 138 9 9 := fun _ _ _ => by kernel_rfl
theorem fa138_10 : Fa Try.prog 138 10 10 := fun _ _ _ => by kernel_rfl
theorem ze138 : Ze Try.prog 138 [.int .u64 0, .int .u64 0, .int .u32 0, .int .u8 0, .int .u8 0, .int .u8 0, .int .u8 0, .nilFunc, .pointer none, .int .i32 0, .int .i32 0] := ⟨.agg #[.int .u64 0, .int .u64 0, .int .u32 0, .int .u8 0, .int .u8 0, .int .u8 0, .int .u8 0, .nilFunc, .pointer none, .int .i32 0, .int .i32 0], rfl, fun _ => by kernel_rfl⟩
theorem ag139 : Ag Try.prog 139 11 := ⟨fun _ => by kernel_rfl, fun _ => by kernel_rfl⟩
theorem fa139_0 : Fa Try.prog 139 0 0 := fun _ _ _ => by kernel_rfl
theorem fa139_1 : Fa Try.prog 139 1 1 := fun _ _ _ => by kernel_rfl
theorem fa139_2 : Fa Try.prog 139 2 2 := fun _ _ _ => by kernel_rfl
theorem fa139_3 : Fa Try.prog 139 3 3 := fun _ _ _ => by kernel_rfl
theorem fa139_4 : Fa Try.prog 139 4 4 := fun _ _ _ => by kernel_rfl
theorem fa139_5 : Fa Try.prog 139 5 5 := fun _ _ _ => by kernel_rfl
theorem fa139_6 : Fa Try.prog 139 6 6 := fun _ _ _ => by kernel_rfl
theorem fa139_7 : Fa Try.prog 139 7 7 := fun _ _ _ => by kernel_rfl
theorem fa139_8 : Fa Try.prog 139 8 8 := fun _ _ _ => by kernel_rfl
theorem fa139_9 : Fa Try.prog 139 9 9 := fun _ _ _ => by kernel_rfl
theorem fa139_10 : Fa Try.prog 139 10 10 := fun _ _ _ => by kernel_rfl
theorem ze139 : Ze Try.prog 139 [.int .u64 0, .int .u64 0, .int .u32 0, .int .u8 0, .int .u8 0, .int .u8 0, .int .u8 0, .nilFunc, .pointer none, .int .i32 0, .int .i32 0] := ⟨.agg #[.int .u64 0, .int .u64 0, .int .u32 0, .int .u8 0, .int .u8 0, .int .u8 0, .int .u8 0, .nilFunc, .pointer none, .int .i32 0, .int .i32 0], rfl, fun _ => by kernel_rfl⟩
theorem ca3 : Ca Try.prog 3 := fun _ _ => by kernel_rfl
theorem ca4 : Ca Try.prog 4 := fun _ _ => by kernel_rfl
theorem ca5 : Ca Try.prog 5 := fun _ _ => by kernel_rfl
theorem ca6 : Ca Try.prog 6 := fun _ _ => by kernel_rfl
theorem ca7 : Ca Try.prog 7 := fun _ _ => by kernel_rfl
theorem ca8 : Ca Try.prog 8 := fun _ _ => by kernel_rfl
theorem ca9 : Ca Try.prog 9 := fun _ _ => by kernel_rfl
theorem ca10 : Ca Try.prog 10 := fun _ _ => by kernel_rfl
theorem ca11 : Ca Try.prog 11 := fun _ _ => by kernel_rfl
theorem ca12 : Ca Try.prog 12 := fun _ _ => by kernel_rfl
theorem ca13 : Ca Try.prog 13 := fun _ _ => by kernel_rfl
theorem ca14 : Ca Try.prog 14 := fun _ _ => by kernel_rfl
theorem ca15 : Ca Try.prog 15 := fun _ _ => by kernel_rfl
theorem ca16 : Ca Try.prog 16 := fun _ _ => by kernel_rfl
theorem ca17 : Ca Try.prog 17 := fun _ _ => by kernel_rfl
theorem ca18 : Ca Try.prog 18 := fun _ _ => by kernel_rfl
theorem ca19 : Ca Try.prog 19 := fun _ _ => by kernel_rfl
theorem ca20 : Ca Try.prog 20 := fun _ _ => by kernel_rfl
theorem ca21 : Ca Try.prog 21 := fun _ _ => by kernel_rfl
theorem ca22 : Ca Try.prog 22 := fun _ _ => by kernel_rfl
theorem ca23 : Ca Try.prog 23 := fun _ _ => by kernel_rfl
theorem ca24 : Ca Try.prog 24 := fun _ _ => by kernel_rfl
theorem ca25 : Ca Try.prog 25 := fun _ _ => by kernel_rfl
theorem ca26 : Ca Try.prog 26 := fun _ _ => by kernel_rfl
theorem ca27 : Ca Try.prog 27 := fun _ _ => by kernel_rfl
theorem ca28 : Ca Try.prog 28 := fun _ _ => by kernel_rfl
theorem ca29 : Ca Try.prog 29 := fun _ _ => by kernel_rfl
theorem ca30 : Ca Try.prog 30 := fun _ _ => by kernel_rfl
theorem ca31 : Ca Try.prog 31 := fun _ _ => by kernel_rfl
theorem ca32 : Ca Try.prog 32 := fun _ _ => by kernel_rfl
theorem ca33 : Ca Try.prog 33 := fun _ _ => by kernel_rfl
theorem ca34 : Ca Try.prog 34 := fun _ _ => by kernel_rfl
theorem ca35 : Ca Try.prog 35 := fun _ _ => by kernel_rfl
theorem ca36 : Ca Try.prog 36 := fun _ _ => by kernel_rfl
theorem ca37 : Ca Try.prog 37 := fun _ _ => by kernel_rfl
theorem ca38 : Ca Try.prog 38 := fun _ _ => by kernel_rfl
theorem ca39 : Ca Try.prog 39 := fun _ _ => by kernel_rfl
theorem ca40 : Ca Try.prog 40 := fun _ _ => by kernel_rfl
theorem ca41 : Ca Try.prog 41 := fun _ _ => by kernel_rfl
theorem ca42 : Ca Try.prog 42 := fun _ _ => by kernel_rfl
theorem ca43 : Ca Try.prog 43 := fun _ _ => by kernel_rfl
theorem ca44 : Ca Try.prog 44 := fun _ _ => by kernel_rfl
theorem ca45 : Ca Try.prog 45 := fun _ _ => by kernel_rfl
theorem ca46 : Ca Try.prog 46 := fun _ _ => by kernel_rfl
theorem ca47 : Ca Try.prog 47 := fun _ _ => by kernel_rfl
theorem ca48 : Ca Try.prog 48 := fun _ _ => by kernel_rfl
theorem ca49 : Ca Try.prog 49 := fun _ _ => by kernel_rfl
theorem ca50 : Ca Try.prog 50 := fun _ _ => by kernel_rfl
theorem ca51 : Ca Try.prog 51 := fun _ _ => by kernel_rfl
theorem ca52 : Ca Try.prog 52 := fun _ _ => by kernel_rfl
theorem ca53 : Ca Try.prog 53 := fun _ _ => by kernel_rfl
theorem ca54 : Ca Try.prog 54 := fun _ _ => by kernel_rfl
theorem ca55 : Ca Try.prog 55 := fun _ _ => by kernel_rfl
theorem ca56 : Ca Try.prog 56 := fun _ _ => by kernel_rfl
theorem ca57 : Ca Try.prog 57 := fun _ _ => by kernel_rfl
theorem ca58 : Ca Try.prog 58 := fun _ _ => by kernel_rfl
theorem ca59 : Ca Try.prog 59 := fun _ _ => by kernel_rfl
theorem ca60 : Ca Try.prog 60 := fun _ _ => by kernel_rfl
theorem ca61 : Ca Try.prog 61 := fun _ _ => by kernel_rfl
theorem ca62 : Ca Try.prog 62 := fun _ _ => by kernel_rfl
theorem ca63 : Ca Try.prog 63 := fun _ _ => by kernel_rfl
theorem ca64 : Ca Try.prog 64 := fun _ _ => by kernel_rfl
theorem ca65 : Ca Try.prog 65 := fun _ _ => by kernel_rfl
theorem ca66 : Ca Try.prog 66 := fun _ _ => by kernel_rfl
theorem ca67 : Ca Try.prog 67 := fun _ _ => by kernel_rfl
theorem ca68 : Ca Try.prog 68 := fun _ _ => by kernel_rfl
theorem ca69 : Ca Try.prog 69 := fun _ _ => by kernel_rfl
theorem ca70 : Ca Try.prog 70 := fun _ _ => by kernel_rfl
theorem ca71 : Ca Try.prog 71 := fun _ _ => by kernel_rfl
theorem ca72 : Ca Try.prog 72 := fun _ _ => by kernel_rfl
theorem ca73 : Ca Try.prog 73 := fun _ _ => by kernel_rfl
theorem ca74 : Ca Try.prog 74 := fun _ _ => by kernel_rfl
theorem ca75 : Ca Try.prog 75 := fun _ _ => by kernel_rfl
theorem ca76 : Ca Try.prog 76 := fun _ _ => by kernel_rfl
theorem ca77 : Ca Try.prog 77 := fun _ _ => by kernel_rfl
theorem ca78 : Ca Try.prog 78 := fun _ _ => by kernel_rfl
theorem ca79 : Ca Try.prog 79 := fun _ _ => by kernel_rfl
theorem ca80 : Ca Try.prog 80 := fun _ _ => by kernel_rfl
theorem ca81 : Ca Try.prog 81 := fun _ _ => by kernel_rfl
theorem ca82 : Ca Try.prog 82 := fun _ _ => by kernel_rfl
theorem ca83 : Ca Try.prog 83 := fun _ _ => by kernel_rfl
theorem ca84 : Ca Try.prog 84 := fun _ _ => by kernel_rfl
theorem ca85 : Ca Try.prog 85 := fun _ _ => by kernel_rfl
theorem ca86 : Ca Try.prog 86 := fun _ _ => by kernel_rfl
theorem ca87 : Ca Try.prog 87 := fun _ _ => by kernel_rfl
theorem mixed : Try.prog.follows .mixedOrders = true := by kernel_rfl
end Go.Proofs.Ytlahbmoebbflbaa
