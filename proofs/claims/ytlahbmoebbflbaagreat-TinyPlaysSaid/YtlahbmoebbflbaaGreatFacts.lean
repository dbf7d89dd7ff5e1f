/-
  Facts on the types and functions of this seat's program, by a program of this session's.
-/
import Derived.Test.YtlahbmoebbflbaaGreatProg
import Derived.Test.YtlahbmoebbflbaaGreatHwC
import Derived.KernelRfl
set_option linter.unusedSimpArgs false
namespace Go.Proofs.YtlahbmoebbflbaaGreat
open Go Go.Proofs.YtlahbmoebbflbaaGreat.Hw
theorem sc3 : Sc Tryz.prog 3 := ⟨fun _ => by kernel_rfl, fun _ => by kernel_rfl⟩
theorem ze3 : Ze Tryz.prog 3 [.int .i64 0] := ⟨.int .i64 0, rfl, fun _ => by kernel_rfl⟩
theorem sc4 : Sc Tryz.prog 4 := ⟨fun _ => by kernel_rfl, fun _ => by kernel_rfl⟩
theorem sc5 : Sc Tryz.prog 5 := ⟨fun _ => by kernel_rfl, fun _ => by kernel_rfl⟩
theorem sc9 : Sc Tryz.prog 9 := ⟨fun _ => by kernel_rfl, fun _ => by kernel_rfl⟩
theorem ze9 : Ze Tryz.prog 9 [.string ⟨#[]⟩] := ⟨.string ⟨#[]⟩, rfl, fun _ => by kernel_rfl⟩
theorem sc22 : Sc Tryz.prog 22 := ⟨fun _ => by kernel_rfl, fun _ => by kernel_rfl⟩
theorem sc24 : Sc Tryz.prog 24 := ⟨fun _ => by kernel_rfl, fun _ => by kernel_rfl⟩
theorem ze24 : Ze Tryz.prog 24 [.pointer none] := ⟨.pointer none, rfl, fun _ => by kernel_rfl⟩
theorem sc25 : Sc Tryz.prog 25 := ⟨fun _ => by kernel_rfl, fun _ => by kernel_rfl⟩
theorem sc28 : Sc Tryz.prog 28 := ⟨fun _ => by kernel_rfl, fun _ => by kernel_rfl⟩
theorem sc29 : Sc Tryz.prog 29 := ⟨fun _ => by kernel_rfl, fun _ => by kernel_rfl⟩
theorem ag31 : Ag Tryz.prog 31 5 := ⟨fun _ => by kernel_rfl, fun _ => by kernel_rfl⟩
theorem fa31_0 : Fa Tryz.prog 31 0 0 := fun _ _ _ => by kernel_rfl
theorem fa31_1 : Fa Tryz.prog 31 1 1 := fun _ _ _ => by kernel_rfl
theorem fa31_2 : Fa Tryz.prog 31 2 2 := fun _ _ _ => by kernel_rfl
theorem fa31_3 : Fa Tryz.prog 31 3 3 := fun _ _ _ => by kernel_rfl
theorem fa31_4 : Fa Tryz.prog 31 4 4 := fun _ _ _ => by kernel_rfl
theorem ze31 : Ze Tryz.prog 31 [.int .i64 0, .int .u64 0, .slice none 0 0, .slice none 0 0, .int .i64 0] := ⟨.agg #[.int .i64 0, .int .u64 0, .slice none 0 0, .slice none 0 0, .int .i64 0], rfl, fun _ => by kernel_rfl⟩
theorem sc32 : Sc Tryz.prog 32 := ⟨fun _ => by kernel_rfl, fun _ => by kernel_rfl⟩
theorem ag34 : Ag Tryz.prog 34 2 := ⟨fun _ => by kernel_rfl, fun _ => by kernel_rfl⟩
theorem fa34_0 : Fa Tryz.prog 34 0 0 := fun _ _ _ => by kernel_rfl
theorem fa34_1 : Fa Tryz.prog 34 1 1 := fun _ _ _ => by kernel_rfl
theorem ze34 : Ze Tryz.prog 34 [.slice none 0 0, .int .i64 0] := ⟨.agg #[.slice none 0 0, .int .i64 0], rfl, fun _ => by kernel_rfl⟩
theorem ag36 : Ag Tryz.prog 36 8 := ⟨fun _ => by kernel_rfl, fun _ => by kernel_rfl⟩
theorem fa36_0 : Fa Tryz.prog 36 0 0 := fun _ _ _ => by kernel_rfl
theorem fa36_1 : Fa Tryz.prog 36 1 1 := fun _ _ _ => by kernel_rfl
theorem fa36_2 : Fa Tryz.prog 36 2 6 := fun _ _ _ => by kernel_rfl
theorem ze36 : Ze Tryz.prog 36 [.int .i64 0, .int .i64 0, .int .u64 0, .slice none 0 0, .slice none 0 0, .int .i64 0, .slice none 0 0, .int .i64 0] := ⟨.agg #[.int .i64 0, .int .i64 0, .int .u64 0, .slice none 0 0, .slice none 0 0, .int .i64 0, .slice none 0 0, .int .i64 0], rfl, fun _ => by kernel_rfl⟩
theorem ag42 : Ag Tryz.prog 42 2 := ⟨fun _ => by kernel_rfl, fun _ => by kernel_rfl⟩
theorem fa42_0 : Fa Tryz.prog 42 0 0 := fun _ _ _ => by kernel_rfl
theorem fa42_1 : Fa Tryz.prog 42 1 1 := fun _ _ _ => by kernel_rfl
theorem sc49 : Sc Tryz.prog 49 := ⟨fun _ => by kernel_rfl, fun _ => by kernel_rfl⟩
theorem sc53 : Sc Tryz.prog 53 := ⟨fun _ => by kernel_rfl, fun _ => by kernel_rfl⟩
theorem fa57_0 : Fa Tryz.prog 57 0 0 := fun _ _ _ => by kernel_rfl
theorem fa57_1 : Fa Tryz.prog 57 1 1 := fun _ _ _ => by kernel_rfl
theorem fa57_2 : Fa Tryz.prog 57 2 2 := fun _ _ _ => by kernel_rfl
theorem sc60 : Sc Tryz.prog 60 := ⟨fun _ => by kernel_rfl, fun _ => by kernel_rfl⟩
theorem ag75 : Ag Tryz.prog 75 3 := ⟨fun _ => by kernel_rfl, fun _ => by kernel_rfl⟩
theorem ze75 : Ze Tryz.prog 75 [.slice none 0 0, .slice none 0 0, .slice none 0 0] := ⟨.agg #[.slice none 0 0, .slice none 0 0, .slice none 0 0], rfl, fun _ => by kernel_rfl⟩
theorem sc81 : Sc Tryz.prog 81 := ⟨fun _ => by kernel_rfl, fun _ => by kernel_rfl⟩
theorem ag82 : Ag Tryz.prog 82 4 := ⟨fun _ => by kernel_rfl, fun _ => by kernel_rfl⟩
theorem fa84_0 : Fa Tryz.prog 84 0 0 := fun _ _ _ => by kernel_rfl
theorem fa84_1 : Fa Tryz.prog 84 1 1 := fun _ _ _ => by kernel_rfl
theorem fa84_2 : Fa Tryz.prog 84 2 2 := fun _ _ _ => by kernel_rfl
theorem fa84_3 : Fa Tryz.prog 84 3 6 := fun _ _ _ => by kernel_rfl
theorem fa84_4 : Fa Tryz.prog 84 4 7 := fun _ _ _ => by kernel_rfl
theorem sc85 : Sc Tryz.prog 85 := ⟨fun _ => by kernel_rfl, fun _ => by kernel_rfl⟩
theorem sc86 : Sc Tryz.prog 86 := ⟨fun _ => by kernel_rfl, fun _ => by kernel_rfl⟩
theorem sc87 : Sc Tryz.prog 87 := ⟨fun _ => by kernel_rfl, fun _ => by kernel_rfl⟩
theorem fa89_0 : Fa Tryz.prog 89 0 0 := fun _ _ _ => by kernel_rfl
theorem fa89_1 : Fa Tryz.prog 89 1 1 := fun _ _ _ => by kernel_rfl
theorem fa89_2 : Fa Tryz.prog 89 2 2 := fun _ _ _ => by kernel_rfl
theorem fa89_3 : Fa Tryz.prog 89 3 3 := fun _ _ _ => by kernel_rfl
theorem fa89_4 : Fa Tryz.prog 89 4 4 := fun _ _ _ => by kernel_rfl
theorem ag91 : Ag Tryz.prog 91 4 := ⟨fun _ => by kernel_rfl, fun _ => by kernel_rfl⟩
theorem fa91_0 : Fa Tryz.prog 91 0 0 := fun _ _ _ => by kernel_rfl
theorem fa91_1 : Fa Tryz.prog 91 1 1 := fun _ _ _ => by kernel_rfl
theorem fa91_2 : Fa Tryz.prog 91 2 2 := fun _ _ _ => by kernel_rfl
theorem fa91_3 : Fa Tryz.prog 91 3 3 := fun _ _ _ => by kernel_rfl
theorem ag94 : Ag Tryz.prog 94 2 := ⟨fun _ => by kernel_rfl, fun _ => by kernel_rfl⟩
theorem fa94_0 : Fa Tryz.prog 94 0 0 := fun _ _ _ => by kernel_rfl
theorem fa94_1 : Fa Tryz.prog 94 1 1 := fun _ _ _ => by kernel_rfl
theorem ze94 : Ze Tryz.prog 94 [.int .i64 0, .int .i64 0] := ⟨.agg #[.int .i64 0, .int .i64 0], rfl, fun _ => by kernel_rfl⟩
theorem sc112 : Sc Tryz.prog 112 := ⟨fun _ => by kernel_rfl, fun _ => by kernel_rfl⟩
theorem fa114_0 : Fa Tryz.prog 114 0 0 := fun _ _ _ => by kernel_rfl
theorem fa114_1 : Fa Tryz.prog 114 1 1 := fun _ _ _ => by kernel_rfl
theorem ze114 : Ze Tryz.prog 114 [.pointer none, .slice none 0 0] := ⟨.agg #[.pointer none, .slice none 0 0], rfl, fun _ => by kernel_rfl⟩
theorem ag126 : Ag Tryz.prog 126 1 := ⟨fun _ => by kernel_rfl, fun _ => by kernel_rfl⟩
theorem fa126_0 : Fa Tryz.prog 126 0 0 := fun _ _ _ => by kernel_rfl
theorem ze126 : Ze Tryz.prog 126 [.int .i64 0] := ⟨.agg #[.int .i64 0], rfl, fun _ => by kernel_rfl⟩
theorem fa128_0 : Fa Tryz.prog 128 0 0 := fun _ _ _ => by kernel_rfl
theorem ca4 : Ca Tryz.prog 4 := fun _ _ => by kernel_rfl
theorem ca5 : Ca Tryz.prog 5 := fun _ _ => by kernel_rfl
theorem ca6 : Ca Tryz.prog 6 := fun _ _ => by kernel_rfl
theorem ca7 : Ca Tryz.prog 7 := fun _ _ => by kernel_rfl
theorem ca8 : Ca Tryz.prog 8 := fun _ _ => by kernel_rfl
theorem ca9 : Ca Tryz.prog 9 := fun _ _ => by kernel_rfl
theorem ca10 : Ca Tryz.prog 10 := fun _ _ => by kernel_rfl
theorem ca11 : Ca Tryz.prog 11 := fun _ _ => by kernel_rfl
theorem ca12 : Ca Tryz.prog 12 := fun _ _ => by kernel_rfl
theorem ca13 : Ca Tryz.prog 13 := fun _ _ => by kernel_rfl
theorem ca14 : Ca Tryz.prog 14 := fun _ _ => by kernel_rfl
theorem ca15 : Ca Tryz.prog 15 := fun _ _ => by kernel_rfl
theorem ca16 : Ca Tryz.prog 16 := fun _ _ => by kernel_rfl
theorem ca17 : Ca Tryz.prog 17 := fun _ _ => by kernel_rfl
theorem ca18 : Ca Tryz.prog 18 := fun _ _ => by kernel_rfl
theorem ca19 : Ca Tryz.prog 19 := fun _ _ => by kernel_rfl
theorem ca20 : Ca Tryz.prog 20 := fun _ _ => by kernel_rfl
theorem ca21 : Ca Tryz.prog 21 := fun _ _ => by kernel_rfl
theorem ca22 : Ca Tryz.prog 22 := fun _ _ => by kernel_rfl
theorem ca23 : Ca Tryz.prog 23 := fun _ _ => by kernel_rfl
theorem ca24 : Ca Tryz.prog 24 := fun _ _ => by kernel_rfl
theorem ca25 : Ca Tryz.prog 25 := fun _ _ => by kernel_rfl
theorem ca26 : Ca Tryz.prog 26 := fun _ _ => by kernel_rfl
theorem ca27 : Ca Tryz.prog 27 := fun _ _ => by kernel_rfl
theorem ca28 : Ca Tryz.prog 28 := fun _ _ => by kernel_rfl
theorem ca29 : Ca Tryz.prog 29 := fun _ _ => by kernel_rfl
theorem ca30 : Ca Tryz.prog 30 := fun _ _ => by kernel_rfl
theorem ca31 : Ca Tryz.prog 31 := fun _ _ => by kernel_rfl
theorem ca32 : Ca Tryz.prog 32 := fun _ _ => by kernel_rfl
theorem ca33 : Ca Tryz.prog 33 := fun _ _ => by kernel_rfl
theorem ca34 : Ca Tryz.prog 34 := fun _ _ => by kernel_rfl
theorem ca35 : Ca Tryz.prog 35 := fun _ _ => by kernel_rfl
theorem ca36 : Ca Tryz.prog 36 := fun _ _ => by kernel_rfl
theorem ca37 : Ca Tryz.prog 37 := fun _ _ => by kernel_rfl
theorem ca38 : Ca Tryz.prog 38 := fun _ _ => by kernel_rfl
theorem ca39 : Ca Tryz.prog 39 := fun _ _ => by kernel_rfl
theorem ca40 : Ca Tryz.prog 40 := fun _ _ => by kernel_rfl
theorem ca41 : Ca Tryz.prog 41 := fun _ _ => by kernel_rfl
theorem ca42 : Ca Tryz.prog 42 := fun _ _ => by kernel_rfl
theorem ca43 : Ca Tryz.prog 43 := fun _ _ => by kernel_rfl
theorem ca44 : Ca Tryz.prog 44 := fun _ _ => by kernel_rfl
theorem ca45 : Ca Tryz.prog 45 := fun _ _ => by kernel_rfl
theorem ca46 : Ca Tryz.prog 46 := fun _ _ => by kernel_rfl
theorem ca47 : Ca Tryz.prog 47 := fun _ _ => by kernel_rfl
theorem ca48 : Ca Tryz.prog 48 := fun _ _ => by kernel_rfl
theorem ca49 : Ca Tryz.prog 49 := fun _ _ => by kernel_rfl
theorem ca50 : Ca Tryz.prog 50 := fun _ _ => by kernel_rfl
theorem ca51 : Ca Tryz.prog 51 := fun _ _ => by kernel_rfl
theorem ca52 : Ca Tryz.prog 52 := fun _ _ => by kernel_rfl
theorem ca53 : Ca Tryz.prog 53 := fun _ _ => by kernel_rfl
theorem ca54 : Ca Tryz.prog 54 := fun _ _ => by kernel_rfl
theorem ca55 : Ca Tryz.prog 55 := fun _ _ => by kernel_rfl
theorem ca56 : Ca Tryz.prog 56 := fun _ _ => by kernel_rfl
theorem ca57 : Ca Tryz.prog 57 := fun _ _ => by kernel_rfl
theorem ca58 : Ca Tryz.prog 58 := fun _ _ => by kernel_rfl
theorem ca59 : Ca Tryz.prog 59 := fun _ _ => by kernel_rfl
theorem ca60 : Ca Tryz.prog 60 := fun _ _ => by kernel_rfl
theorem ca61 : Ca Tryz.prog 61 := fun _ _ => by kernel_rfl
theorem ca62 : Ca Tryz.prog 62 := fun _ _ => by kernel_rfl
theorem ca63 : Ca Tryz.prog 63 := fun _ _ => by kernel_rfl
theorem ca64 : Ca Tryz.prog 64 := fun _ _ => by kernel_rfl
theorem ca65 : Ca Tryz.prog 65 := fun _ _ => by kernel_rfl
theorem ca66 : Ca Tryz.prog 66 := fun _ _ => by kernel_rfl
theorem ca67 : Ca Tryz.prog 67 := fun _ _ => by kernel_rfl
theorem ca68 : Ca Tryz.prog 68 := fun _ _ => by kernel_rfl
theorem ca69 : Ca Tryz.prog 69 := fun _ _ => by kernel_rfl
theorem ca70 : Ca Tryz.prog 70 := fun _ _ => by kernel_rfl
theorem ca71 : Ca Tryz.prog 71 := fun _ _ => by kernel_rfl
theorem ca72 : Ca Tryz.prog 72 := fun _ _ => by kernel_rfl
theorem ca73 : Ca Tryz.prog 73 := fun _ _ => by kernel_rfl
theorem ca74 : Ca Tryz.prog 74 := fun _ _ => by kernel_rfl
theorem ca75 : Ca Tryz.prog 75 := fun _ _ => by kernel_rfl
theorem ca76 : Ca Tryz.prog 76 := fun _ _ => by kernel_rfl
theorem ca77 : Ca Tryz.prog 77 := fun _ _ => by kernel_rfl
theorem ca78 : Ca Tryz.prog 78 := fun _ _ => by kernel_rfl
theorem ca79 : Ca Tryz.prog 79 := fun _ _ => by kernel_rfl
theorem ca80 : Ca Tryz.prog 80 := fun _ _ => by kernel_rfl
theorem ca82 : Ca Tryz.prog 82 := fun _ _ => by kernel_rfl
theorem ca83 : Ca Tryz.prog 83 := fun _ _ => by kernel_rfl
theorem ca84 : Ca Tryz.prog 84 := fun _ _ => by kernel_rfl
theorem ca85 : Ca Tryz.prog 85 := fun _ _ => by kernel_rfl
theorem ca86 : Ca Tryz.prog 86 := fun _ _ => by kernel_rfl
theorem ca87 : Ca Tryz.prog 87 := fun _ _ => by kernel_rfl
theorem ca88 : Ca Tryz.prog 88 := fun _ _ => by kernel_rfl
theorem ca89 : Ca Tryz.prog 89 := fun _ _ => by kernel_rfl
theorem ca90 : Ca Tryz.prog 90 := fun _ _ => by kernel_rfl
theorem ca91 : Ca Tryz.prog 91 := fun _ _ => by kernel_rfl
theorem ca92 : Ca Tryz.prog 92 := fun _ _ => by kernel_rfl
theorem ca93 : Ca Tryz.prog 93 := fun _ _ => by kernel_rfl
theorem ca94 : Ca Tryz.prog 94 := fun _ _ => by kernel_rfl
theorem ca95 : Ca Tryz.prog 95 := fun _ _ => by kernel_rfl
theorem ca96 : Ca Tryz.prog 96 := fun _ _ => by kernel_rfl
theorem ca97 : Ca Tryz.prog 97 := fun _ _ => by kernel_rfl
theorem ca98 : Ca Tryz.prog 98 := fun _ _ => by kernel_rfl
theorem ca99 : Ca Tryz.prog 99 := fun _ _ => by kernel_rfl
theorem ca100 : Ca Tryz.prog 100 := fun _ _ => by kernel_rfl
theorem ca101 : Ca Tryz.prog 101 := fun _ _ => by kernel_rfl
theorem ca103 : Ca Tryz.prog 103 := fun _ _ => by kernel_rfl
theorem mixed : Tryz.prog.follows .mixedOrders = true := by kernel_rfl
end Go.Proofs.YtlahbmoebbflbaaGreat
