import Derived.Test.YtpanhdnglicknaaGreatProg
import Derived.Test.YtpanhdnglicknaaGreatHwC
import Derived.KernelRfl
set_option linter.unusedSimpArgs false
namespace Go.Proofs.YtpanhdnglicknaaGreat
open Go Go.Proofs.YtpanhdnglicknaaGreat.Hw
theorem sc2:Sc Tryz.prog 2:=⟨fun _=>by kernel_rfl,fun _=>by kernel_rfl⟩
theorem sc3:Sc Tryz.prog 3:=⟨fun _=>by kernel_rfl,fun _=>by kernel_rfl⟩
theorem sc4:Sc Tryz.prog 4:=⟨fun _=>by kernel_rfl,fun _=>by kernel_rfl⟩
theorem sc5:Sc Tryz.prog 5:=⟨fun _=>by kernel_rfl,fun _=>by kernel_rfl⟩
theorem sc9:Sc Tryz.prog 9:=⟨fun _=>by kernel_rfl,fun _=>by kernel_rfl⟩
theorem ze9:Ze Tryz.prog 9 [.string ⟨#[]⟩]:=⟨.string ⟨#[]⟩,rfl,fun _=>by kernel_rfl⟩
theorem sc22:Sc Tryz.prog 22:=⟨fun _=>by kernel_rfl,fun _=>by kernel_rfl⟩
theorem ag24:Ag Tryz.prog 24 4:=⟨fun _=>by kernel_rfl,fun _=>by kernel_rfl⟩
theorem fa24_0:Fa Tryz.prog 24 0 0:=fun _ _ _=>by kernel_rfl
theorem fa24_1:Fa Tryz.prog 24 1 1:=fun _ _ _=>by kernel_rfl
theorem fa24_2:Fa Tryz.prog 24 2 2:=fun _ _ _=>by kernel_rfl
theorem fa24_3:Fa Tryz.prog 24 3 3:=fun _ _ _=>by kernel_rfl
theorem ze24:Ze Tryz.prog 24 [.int .i64 0,.int .i64 0,.int .i64 0,.int .u64 0]:=⟨.agg #[.int .i64 0,.int .i64 0,.int .i64 0,.int .u64 0],rfl,fun _=>by kernel_rfl⟩
theorem ag27:Ag Tryz.prog 27 5:=⟨fun _=>by kernel_rfl,fun _=>by kernel_rfl⟩
theorem fa27_0:Fa Tryz.prog 27 0 0:=fun _ _ _=>by kernel_rfl
theorem fa27_1:Fa Tryz.prog 27 1 1:=fun _ _ _=>by kernel_rfl
theorem fa27_2:Fa Tryz.prog 27 2 2:=fun _ _ _=>by kernel_rfl
theorem fa27_3:Fa Tryz.prog 27 3 3:=fun _ _ _=>by kernel_rfl
theorem fa27_4:Fa Tryz.prog 27 4 4:=fun _ _ _=>by kernel_rfl
theorem ze27:Ze Tryz.prog 27 [.int .i64 0,.string ⟨#[]⟩,.string ⟨#[]⟩,.int .u64 0,.int .u64 0]:=⟨.agg #[.int .i64 0,.string ⟨#[]⟩,.string ⟨#[]⟩,.int .u64 0,.int .u64 0],rfl,fun _=>by kernel_rfl⟩
theorem ag29:Ag Tryz.prog 29 9:=⟨fun _=>by kernel_rfl,fun _=>by kernel_rfl⟩
theorem fa29_0:Fa Tryz.prog 29 0 0:=fun _ _ _=>by kernel_rfl
theorem fa29_1:Fa Tryz.prog 29 1 1:=fun _ _ _=>by kernel_rfl
theorem fa29_2:Fa Tryz.prog 29 2 2:=fun _ _ _=>by kernel_rfl
theorem fa29_3:Fa Tryz.prog 29 3 3:=fun _ _ _=>by kernel_rfl
theorem fa29_4:Fa Tryz.prog 29 4 8:=fun _ _ _=>by kernel_rfl
theorem sc30:Sc Tryz.prog 30:=⟨fun _=>by kernel_rfl,fun _=>by kernel_rfl⟩
theorem ze30:Ze Tryz.prog 30 [.pointer none]:=⟨.pointer none,rfl,fun _=>by kernel_rfl⟩
theorem ag35:Ag Tryz.prog 35 9:=⟨fun _=>by kernel_rfl,fun _=>by kernel_rfl⟩
theorem fa35_0:Fa Tryz.prog 35 0 0:=fun _ _ _=>by kernel_rfl
theorem fa35_1:Fa Tryz.prog 35 1 1:=fun _ _ _=>by kernel_rfl
theorem fa35_2:Fa Tryz.prog 35 2 2:=fun _ _ _=>by kernel_rfl
theorem fa35_3:Fa Tryz.prog 35 3 3:=fun _ _ _=>by kernel_rfl
theorem fa35_4:Fa Tryz.prog 35 4 4:=fun _ _ _=>by kernel_rfl
theorem ze35:Ze Tryz.prog 35 [.int .u64 0,.int .u64 0,.int .u64 0,.int .u64 0,.int .i64 0,.string ⟨#[]⟩,.string ⟨#[]⟩,.int .u64 0,.int .u64 0]:=⟨.agg #[.int .u64 0,.int .u64 0,.int .u64 0,.int .u64 0,.int .i64 0,.string ⟨#[]⟩,.string ⟨#[]⟩,.int .u64 0,.int .u64 0],rfl,fun _=>by kernel_rfl⟩
theorem sc39:Sc Tryz.prog 39:=⟨fun _=>by kernel_rfl,fun _=>by kernel_rfl⟩
theorem ag41:Ag Tryz.prog 41 3:=⟨fun _=>by kernel_rfl,fun _=>by kernel_rfl⟩
theorem fa41_0:Fa Tryz.prog 41 0 0:=fun _ _ _=>by kernel_rfl
theorem fa41_1:Fa Tryz.prog 41 1 1:=fun _ _ _=>by kernel_rfl
theorem fa41_2:Fa Tryz.prog 41 2 2:=fun _ _ _=>by kernel_rfl
theorem ze41:Ze Tryz.prog 41 [.int .i64 0,.string ⟨#[]⟩,.int .u64 0]:=⟨.agg #[.int .i64 0,.string ⟨#[]⟩,.int .u64 0],rfl,fun _=>by kernel_rfl⟩
theorem ag47:Ag Tryz.prog 47 2:=⟨fun _=>by kernel_rfl,fun _=>by kernel_rfl⟩
theorem fa47_0:Fa Tryz.prog 47 0 0:=fun _ _ _=>by kernel_rfl
theorem fa47_1:Fa Tryz.prog 47 1 1:=fun _ _ _=>by kernel_rfl
theorem ag50:Ag Tryz.prog 50 4:=⟨fun _=>by kernel_rfl,fun _=>by kernel_rfl⟩
theorem fa50_0:Fa Tryz.prog 50 0 0:=fun _ _ _=>by kernel_rfl
theorem fa50_1:Fa Tryz.prog 50 1 1:=fun _ _ _=>by kernel_rfl
theorem fa50_2:Fa Tryz.prog 50 2 2:=fun _ _ _=>by kernel_rfl
theorem fa50_3:Fa Tryz.prog 50 3 3:=fun _ _ _=>by kernel_rfl
theorem ze50:Ze Tryz.prog 50 [.string ⟨#[]⟩,.string ⟨#[]⟩,.int .u64 0,.int .u64 0]:=⟨.agg #[.string ⟨#[]⟩,.string ⟨#[]⟩,.int .u64 0,.int .u64 0],rfl,fun _=>by kernel_rfl⟩
theorem sc68:Sc Tryz.prog 68:=⟨fun _=>by kernel_rfl,fun _=>by kernel_rfl⟩
theorem sc92:Sc Tryz.prog 92:=⟨fun _=>by kernel_rfl,fun _=>by kernel_rfl⟩
theorem sc93:Sc Tryz.prog 93:=⟨fun _=>by kernel_rfl,fun _=>by kernel_rfl⟩
theorem sc94:Sc Tryz.prog 94:=⟨fun _=>by kernel_rfl,fun _=>by kernel_rfl⟩
theorem fa96_0:Fa Tryz.prog 96 0 0:=fun _ _ _=>by kernel_rfl
theorem fa96_1:Fa Tryz.prog 96 1 4:=fun _ _ _=>by kernel_rfl
theorem fa96_2:Fa Tryz.prog 96 2 5:=fun _ _ _=>by kernel_rfl
theorem fa96_3:Fa Tryz.prog 96 3 6:=fun _ _ _=>by kernel_rfl
theorem fa96_4:Fa Tryz.prog 96 4 7:=fun _ _ _=>by kernel_rfl
theorem fa96_5:Fa Tryz.prog 96 5 8:=fun _ _ _=>by kernel_rfl
theorem fa96_6:Fa Tryz.prog 96 6 9:=fun _ _ _=>by kernel_rfl
theorem fa96_7:Fa Tryz.prog 96 7 10:=fun _ _ _=>by kernel_rfl
theorem ag102:Ag Tryz.prog 102 4:=⟨fun _=>by kernel_rfl,fun _=>by kernel_rfl⟩
theorem fa102_0:Fa Tryz.prog 102 0 0:=fun _ _ _=>by kernel_rfl
theorem fa102_1:Fa Tryz.prog 102 1 1:=fun _ _ _=>by kernel_rfl
theorem ze102:Ze Tryz.prog 102 [.int .u64 0,.int .i64 0,.string ⟨#[]⟩,.int .u64 0]:=⟨.agg #[.int .u64 0,.int .i64 0,.string ⟨#[]⟩,.int .u64 0],rfl,fun _=>by kernel_rfl⟩
theorem sc118:Sc Tryz.prog 118:=⟨fun _=>by kernel_rfl,fun _=>by kernel_rfl⟩
theorem sc128:Sc Tryz.prog 128:=⟨fun _=>by kernel_rfl,fun _=>by kernel_rfl⟩
theorem ag129:Ag Tryz.prog 129 8:=⟨fun _=>by kernel_rfl,fun _=>by kernel_rfl⟩
theorem ze129:Ze Tryz.prog 129 [.int .u32 0,.int .u32 0,.int .u32 0,.int .u32 0,.int .u32 0,.int .u32 0,.int .u32 0,.int .u32 0]:=⟨.agg #[.int .u32 0,.int .u32 0,.int .u32 0,.int .u32 0,.int .u32 0,.int .u32 0,.int .u32 0,.int .u32 0],rfl,fun _=>by kernel_rfl⟩
theorem sc131:Sc Tryz.prog 131:=⟨fun _=>by kernel_rfl,fun _=>by kernel_rfl⟩
theorem ze133:Ze Tryz.prog 133 [.int .u8 0,.int .u8 0,.int .u8 0,.int .u8 0,.int .u8 0,.int .u8 0,.int .u8 0,.int .u8 0,.int .u8 0,.int .u8 0,.int .u8 0,.int .u8 0,.int .u8 0,.int .u8 0,.int .u8 0,.int .u8 0,.int .u8 0,.int .u8 0,.int .u8 0,.int .u8 0,.int .u8 0,.int .u8 0,.int .u8 0,.int .u8 0,.int .u8 0,.int .u8 0,.int .u8 0,.int .u8 0,.int .u8 0,.int .u8 0,.int .u8 0,.int .u8 0,.int .u8 0,.int .u8 0,.int .u8 0,.int .u8 0,.int .u8 0,.int .u8 0,.int .u8 0,.int .u8 0,.int .u8 0,.int .u8 0,.int .u8 0,.int .u8 0,.int .u8 0,.int .u8 0,.int .u8 0,.int .u8 0,.int .u8 0,.int .u8 0,.int .u8 0,.int .u8 0,.int .u8 0,.int .u8 0,.int .u8 0,.int .u8 0,.int .u8 0,.int .u8 0,.int .u8 0,.int .u8 0,.int .u8 0,.int .u8 0,.int .u8 0,.int .u8 0]:=⟨.agg #[.int .u8 0,.int .u8 0,.int .u8 0,.int .u8 0,.int .u8 0,.int .u8 0,.int .u8 0,.int .u8 0,.int .u8 0,.int .u8 0,.int .u8 0,.int .u8 0,.int .u8 0,.int .u8 0,.int .u8 0,.int .u8 0,.int .u8 0,.int .u8 0,.int .u8 0,.int .u8 0,.int .u8 0,.int .u8 0,.int .u8 0,.int .u8 0,.int .u8 0,.int .u8 0,.int .u8 0,.int .u8 0,.int .u8 0,.int .u8 0,.int .u8 0,.int .u8 0,.int .u8 0,.int .u8 0,.int .u8 0,.int .u8 0,.int .u8 0,.int .u8 0,.int .u8 0,.int .u8 0,.int .u8 0,.int .u8 0,.int .u8 0,.int .u8 0,.int .u8 0,.int .u8 0,.int .u8 0,.int .u8 0,.int .u8 0,.int .u8 0,.int .u8 0,.int .u8 0,.int .u8 0,.int .u8 0,.int .u8 0,.int .u8 0,.int .u8 0,.int .u8 0,.int .u8 0,.int .u8 0,.int .u8 0,.int .u8 0,.int .u8 0,.int .u8 0],rfl,fun _=>by kernel_rfl⟩
theorem sc136:Sc Tryz.prog 136:=⟨fun _=>by kernel_rfl,fun _=>by kernel_rfl⟩
theorem fa138_0:Fa Tryz.prog 138 0 0:=fun _ _ _=>by kernel_rfl
theorem fa138_1:Fa Tryz.prog 138 1 1:=fun _ _ _=>by kernel_rfl
theorem sc141:Sc Tryz.prog 141:=⟨fun _=>by kernel_rfl,fun _=>by kernel_rfl⟩
theorem sc142:Sc Tryz.prog 142:=⟨fun _=>by kernel_rfl,fun _=>by kernel_rfl⟩
theorem fa144_0:Fa Tryz.prog 144 0 0:=fun _ _ _=>by kernel_rfl
theorem fa144_1:Fa Tryz.prog 144 1 1:=fun _ _ _=>by kernel_rfl
theorem fa144_2:Fa Tryz.prog 144 2 2:=fun _ _ _=>by kernel_rfl
theorem sc165:Sc Tryz.prog 165:=⟨fun _=>by kernel_rfl,fun _=>by kernel_rfl⟩
theorem fa167_0:Fa Tryz.prog 167 0 0:=fun _ _ _=>by kernel_rfl
theorem fa167_1:Fa Tryz.prog 167 1 1:=fun _ _ _=>by kernel_rfl
theorem ze167:Ze Tryz.prog 167 [.pointer none,.slice none 0 0]:=⟨.agg #[.pointer none,.slice none 0 0],rfl,fun _=>by kernel_rfl⟩
theorem ag175:Ag Tryz.prog 175 1:=⟨fun _=>by kernel_rfl,fun _=>by kernel_rfl⟩
theorem fa175_0:Fa Tryz.prog 175 0 0:=fun _ _ _=>by kernel_rfl
theorem ze175:Ze Tryz.prog 175 [.int .i64 0]:=⟨.agg #[.int .i64 0],rfl,fun _=>by kernel_rfl⟩
theorem fa177_0:Fa Tryz.prog 177 0 0:=fun _ _ _=>by kernel_rfl
theorem ze183:Ze Tryz.prog 183 [.int .u32 0,.int .u32 0,.int .u32 0,.int .u32 0,.int .u32 0,.int .u32 0,.int .u32 0,.int .u32 0,.int .u32 0,.int .u32 0,.int .u32 0,.int .u32 0,.int .u32 0,.int .u32 0,.int .u32 0,.int .u32 0]:=⟨.agg #[.int .u32 0,.int .u32 0,.int .u32 0,.int .u32 0,.int .u32 0,.int .u32 0,.int .u32 0,.int .u32 0,.int .u32 0,.int .u32 0,.int .u32 0,.int .u32 0,.int .u32 0,.int .u32 0,.int .u32 0,.int .u32 0],rfl,fun _=>by kernel_rfl⟩
theorem sc185:Sc Tryz.prog 185:=⟨fun _=>by kernel_rfl,fun _=>by kernel_rfl⟩
theorem ze185:Ze Tryz.prog 185 [.nilFunc]:=⟨.nilFunc,rfl,fun _=>by kernel_rfl⟩
theorem sc191:Sc Tryz.prog 191:=⟨fun _=>by kernel_rfl,fun _=>by kernel_rfl⟩
theorem fa193_0:Fa Tryz.prog 193 0 0:=fun _ _ _=>by kernel_rfl
theorem fa193_1:Fa Tryz.prog 193 1 1:=fun _ _ _=>by kernel_rfl
theorem fa193_2:Fa Tryz.prog 193 2 2:=fun _ _ _=>by kernel_rfl
theorem sc194:Sc Tryz.prog 194:=⟨fun _=>by kernel_rfl,fun _=>by kernel_rfl⟩
theorem fa196_0:Fa Tryz.prog 196 0 0:=fun _ _ _=>by kernel_rfl
theorem fa196_1:Fa Tryz.prog 196 1 1:=fun _ _ _=>by kernel_rfl
theorem fa196_2:Fa Tryz.prog 196 2 2:=fun _ _ _=>by kernel_rfl
theorem ag229:Ag Tryz.prog 229 10:=⟨fun _=>by kernel_rfl,fun _=>by kernel_rfl⟩
theorem ze229:Ze Tryz.prog 229 [.string ⟨#[]⟩,.string ⟨#[]⟩,.string ⟨#[]⟩,.string ⟨#[]⟩,.string ⟨#[]⟩,.string ⟨#[]⟩,.string ⟨#[]⟩,.string ⟨#[]⟩,.string ⟨#[]⟩,.string ⟨#[]⟩]:=⟨.agg #[.string ⟨#[]⟩,.string ⟨#[]⟩,.string ⟨#[]⟩,.string ⟨#[]⟩,.string ⟨#[]⟩,.string ⟨#[]⟩,.string ⟨#[]⟩,.string ⟨#[]⟩,.string ⟨#[]⟩,.string ⟨#[]⟩],rfl,fun _=>by kernel_rfl⟩
theorem sc233:Sc Tryz.prog 233:=⟨fun _=>by kernel_rfl,fun _=>by kernel_rfl⟩
theorem sc234:Sc Tryz.prog 234:=⟨fun _=>by kernel_rfl,fun _=>by kernel_rfl⟩
theorem sc235:Sc Tryz.prog 235:=⟨fun _=>by kernel_rfl,fun _=>by kernel_rfl⟩
theorem fa237_0:Fa Tryz.prog 237 0 0:=fun _ _ _=>by kernel_rfl
theorem fa237_1:Fa Tryz.prog 237 1 1:=fun _ _ _=>by kernel_rfl
theorem fa237_2:Fa Tryz.prog 237 2 2:=fun _ _ _=>by kernel_rfl
theorem fa237_3:Fa Tryz.prog 237 3 3:=fun _ _ _=>by kernel_rfl
theorem fa237_4:Fa Tryz.prog 237 4 4:=fun _ _ _=>by kernel_rfl
theorem ag240:Ag Tryz.prog 240 4:=⟨fun _=>by kernel_rfl,fun _=>by kernel_rfl⟩
theorem fa240_0:Fa Tryz.prog 240 0 0:=fun _ _ _=>by kernel_rfl
theorem fa240_1:Fa Tryz.prog 240 1 1:=fun _ _ _=>by kernel_rfl
theorem fa240_2:Fa Tryz.prog 240 2 2:=fun _ _ _=>by kernel_rfl
theorem fa240_3:Fa Tryz.prog 240 3 3:=fun _ _ _=>by kernel_rfl
theorem ag243:Ag Tryz.prog 243 2:=⟨fun _=>by kernel_rfl,fun _=>by kernel_rfl⟩
theorem fa243_0:Fa Tryz.prog 243 0 0:=fun _ _ _=>by kernel_rfl
theorem fa243_1:Fa Tryz.prog 243 1 1:=fun _ _ _=>by kernel_rfl
theorem ze243:Ze Tryz.prog 243 [.int .i64 0,.int .i64 0]:=⟨.agg #[.int .i64 0,.int .i64 0],rfl,fun _=>by kernel_rfl⟩
theorem ag248:Ag Tryz.prog 248 4:=⟨fun _=>by kernel_rfl,fun _=>by kernel_rfl⟩
theorem fa250_0:Fa Tryz.prog 250 0 0:=fun _ _ _=>by kernel_rfl
theorem fa250_1:Fa Tryz.prog 250 1 1:=fun _ _ _=>by kernel_rfl
theorem fa250_2:Fa Tryz.prog 250 2 2:=fun _ _ _=>by kernel_rfl
theorem fa250_3:Fa Tryz.prog 250 3 6:=fun _ _ _=>by kernel_rfl
theorem fa250_4:Fa Tryz.prog 250 4 7:=fun _ _ _=>by kernel_rfl
theorem ag273:Ag Tryz.prog 273 4:=⟨fun _=>by kernel_rfl,fun _=>by kernel_rfl⟩
theorem ze273:Ze Tryz.prog 273 [.int .i64 0,.int .i64 0,.int .i64 0,.int .i64 0]:=⟨.agg #[.int .i64 0,.int .i64 0,.int .i64 0,.int .i64 0],rfl,fun _=>by kernel_rfl⟩
theorem ca11:Ca Tryz.prog 11:=fun _ _=>by kernel_rfl
theorem ca12:Ca Tryz.prog 12:=fun _ _=>by kernel_rfl
theorem ca13:Ca Tryz.prog 13:=fun _ _=>by kernel_rfl
theorem ca14:Ca Tryz.prog 14:=fun _ _=>by kernel_rfl
theorem ca15:Ca Tryz.prog 15:=fun _ _=>by kernel_rfl
theorem ca16:Ca Tryz.prog 16:=fun _ _=>by kernel_rfl
theorem ca18:Ca Tryz.prog 18:=fun _ _=>by kernel_rfl
theorem ca19:Ca Tryz.prog 19:=fun _ _=>by kernel_rfl
theorem ca25:Ca Tryz.prog 25:=fun _ _=>by kernel_rfl
theorem ca28:Ca Tryz.prog 28:=fun _ _=>by kernel_rfl
theorem ca29:Ca Tryz.prog 29:=fun _ _=>by kernel_rfl
theorem ca31:Ca Tryz.prog 31:=fun _ _=>by kernel_rfl
theorem ca32:Ca Tryz.prog 32:=fun _ _=>by kernel_rfl
theorem ca33:Ca Tryz.prog 33:=fun _ _=>by kernel_rfl
theorem ca34:Ca Tryz.prog 34:=fun _ _=>by kernel_rfl
theorem ca35:Ca Tryz.prog 35:=fun _ _=>by kernel_rfl
theorem ca36:Ca Tryz.prog 36:=fun _ _=>by kernel_rfl
theorem ca37:Ca Tryz.prog 37:=fun _ _=>by kernel_rfl
theorem ca38:Ca Tryz.prog 38:=fun _ _=>by kernel_rfl
theorem ca39:Ca Tryz.prog 39:=fun _ _=>by kernel_rfl
theorem ca40:Ca Tryz.prog 40:=fun _ _=>by kernel_rfl
theorem ca41:Ca Tryz.prog 41:=fun _ _=>by kernel_rfl
theorem ca42:Ca Tryz.prog 42:=fun _ _=>by kernel_rfl
theorem ca49:Ca Tryz.prog 49:=fun _ _=>by kernel_rfl
theorem ca50:Ca Tryz.prog 50:=fun _ _=>by kernel_rfl
theorem ca51:Ca Tryz.prog 51:=fun _ _=>by kernel_rfl
theorem ca52:Ca Tryz.prog 52:=fun _ _=>by kernel_rfl
theorem ca53:Ca Tryz.prog 53:=fun _ _=>by kernel_rfl
theorem ca54:Ca Tryz.prog 54:=fun _ _=>by kernel_rfl
theorem ca59:Ca Tryz.prog 59:=fun _ _=>by kernel_rfl
theorem ca60:Ca Tryz.prog 60:=fun _ _=>by kernel_rfl
theorem ca61:Ca Tryz.prog 61:=fun _ _=>by kernel_rfl
theorem ca62:Ca Tryz.prog 62:=fun _ _=>by kernel_rfl
theorem ca63:Ca Tryz.prog 63:=fun _ _=>by kernel_rfl
theorem ca64:Ca Tryz.prog 64:=fun _ _=>by kernel_rfl
theorem ca66:Ca Tryz.prog 66:=fun _ _=>by kernel_rfl
theorem ca67:Ca Tryz.prog 67:=fun _ _=>by kernel_rfl
theorem ca68:Ca Tryz.prog 68:=fun _ _=>by kernel_rfl
theorem ca69:Ca Tryz.prog 69:=fun _ _=>by kernel_rfl
theorem ca70:Ca Tryz.prog 70:=fun _ _=>by kernel_rfl
theorem ca71:Ca Tryz.prog 71:=fun _ _=>by kernel_rfl
theorem ca72:Ca Tryz.prog 72:=fun _ _=>by kernel_rfl
theorem ca73:Ca Tryz.prog 73:=fun _ _=>by kernel_rfl
theorem ca74:Ca Tryz.prog 74:=fun _ _=>by kernel_rfl
theorem ca75:Ca Tryz.prog 75:=fun _ _=>by kernel_rfl
theorem ca76:Ca Tryz.prog 76:=fun _ _=>by kernel_rfl
theorem ca88:Ca Tryz.prog 88:=fun _ _=>by kernel_rfl
theorem ca89:Ca Tryz.prog 89:=fun _ _=>by kernel_rfl
theorem ca90:Ca Tryz.prog 90:=fun _ _=>by kernel_rfl
theorem ca91:Ca Tryz.prog 91:=fun _ _=>by kernel_rfl
theorem ca92:Ca Tryz.prog 92:=fun _ _=>by kernel_rfl
theorem ca93:Ca Tryz.prog 93:=fun _ _=>by kernel_rfl
theorem ca94:Ca Tryz.prog 94:=fun _ _=>by kernel_rfl
theorem ca95:Ca Tryz.prog 95:=fun _ _=>by kernel_rfl
theorem ca101:Ca Tryz.prog 101:=fun _ _=>by kernel_rfl
theorem ca102:Ca Tryz.prog 102:=fun _ _=>by kernel_rfl
theorem ca103:Ca Tryz.prog 103:=fun _ _=>by kernel_rfl
theorem ca104:Ca Tryz.prog 104:=fun _ _=>by kernel_rfl
theorem ca105:Ca Tryz.prog 105:=fun _ _=>by kernel_rfl
theorem ca106:Ca Tryz.prog 106:=fun _ _=>by kernel_rfl
theorem ca107:Ca Tryz.prog 107:=fun _ _=>by kernel_rfl
theorem ca108:Ca Tryz.prog 108:=fun _ _=>by kernel_rfl
theorem ca109:Ca Tryz.prog 109:=fun _ _=>by kernel_rfl
theorem ca110:Ca Tryz.prog 110:=fun _ _=>by kernel_rfl
theorem ca111:Ca Tryz.prog 111:=fun _ _=>by kernel_rfl
theorem ca112:Ca Tryz.prog 112:=fun _ _=>by kernel_rfl
theorem ca113:Ca Tryz.prog 113:=fun _ _=>by kernel_rfl
theorem ca114:Ca Tryz.prog 114:=fun _ _=>by kernel_rfl
theorem ca115:Ca Tryz.prog 115:=fun _ _=>by kernel_rfl
theorem ca116:Ca Tryz.prog 116:=fun _ _=>by kernel_rfl
theorem ca117:Ca Tryz.prog 117:=fun _ _=>by kernel_rfl
theorem ca118:Ca Tryz.prog 118:=fun _ _=>by kernel_rfl
theorem ca119:Ca Tryz.prog 119:=fun _ _=>by kernel_rfl
theorem ca120:Ca Tryz.prog 120:=fun _ _=>by kernel_rfl
theorem ca121:Ca Tryz.prog 121:=fun _ _=>by kernel_rfl
theorem ca122:Ca Tryz.prog 122:=fun _ _=>by kernel_rfl
theorem ca123:Ca Tryz.prog 123:=fun _ _=>by kernel_rfl
theorem ca124:Ca Tryz.prog 124:=fun _ _=>by kernel_rfl
theorem ca128:Ca Tryz.prog 128:=fun _ _=>by kernel_rfl
theorem ca129:Ca Tryz.prog 129:=fun _ _=>by kernel_rfl
theorem ca130:Ca Tryz.prog 130:=fun _ _=>by kernel_rfl
theorem ca144:Ca Tryz.prog 144:=fun _ _=>by kernel_rfl
theorem ca145:Ca Tryz.prog 145:=fun _ _=>by kernel_rfl
theorem ca146:Ca Tryz.prog 146:=fun _ _=>by kernel_rfl
theorem ca147:Ca Tryz.prog 147:=fun _ _=>by kernel_rfl
theorem ca148:Ca Tryz.prog 148:=fun _ _=>by kernel_rfl
theorem ca149:Ca Tryz.prog 149:=fun _ _=>by kernel_rfl
theorem ca152:Ca Tryz.prog 152:=fun _ _=>by kernel_rfl
theorem ca153:Ca Tryz.prog 153:=fun _ _=>by kernel_rfl
theorem ca154:Ca Tryz.prog 154:=fun _ _=>by kernel_rfl
theorem ca155:Ca Tryz.prog 155:=fun _ _=>by kernel_rfl
theorem ca156:Ca Tryz.prog 156:=fun _ _=>by kernel_rfl
theorem ca157:Ca Tryz.prog 157:=fun _ _=>by kernel_rfl
theorem ca158:Ca Tryz.prog 158:=fun _ _=>by kernel_rfl
theorem ca159:Ca Tryz.prog 159:=fun _ _=>by kernel_rfl
theorem ca160:Ca Tryz.prog 160:=fun _ _=>by kernel_rfl
theorem ca161:Ca Tryz.prog 161:=fun _ _=>by kernel_rfl
theorem ca162:Ca Tryz.prog 162:=fun _ _=>by kernel_rfl
theorem ca163:Ca Tryz.prog 163:=fun _ _=>by kernel_rfl
theorem ca164:Ca Tryz.prog 164:=fun _ _=>by kernel_rfl
theorem ca165:Ca Tryz.prog 165:=fun _ _=>by kernel_rfl
theorem ca166:Ca Tryz.prog 166:=fun _ _=>by kernel_rfl
theorem ca167:Ca Tryz.prog 167:=fun _ _=>by kernel_rfl
theorem ca168:Ca Tryz.prog 168:=fun _ _=>by kernel_rfl
theorem ca169:Ca Tryz.prog 169:=fun _ _=>by kernel_rfl
theorem ca170:Ca Tryz.prog 170:=fun _ _=>by kernel_rfl
theorem ca188:Ca Tryz.prog 188:=fun _ _=>by kernel_rfl
theorem ca189:Ca Tryz.prog 189:=fun _ _=>by kernel_rfl
theorem ca190:Ca Tryz.prog 190:=fun _ _=>by kernel_rfl
theorem ca196:Ca Tryz.prog 196:=fun _ _=>by kernel_rfl
theorem ca200:Ca Tryz.prog 200:=fun _ _=>by kernel_rfl
theorem ca202:Ca Tryz.prog 202:=fun _ _=>by kernel_rfl
theorem ca203:Ca Tryz.prog 203:=fun _ _=>by kernel_rfl
theorem ca204:Ca Tryz.prog 204:=fun _ _=>by kernel_rfl
theorem ca205:Ca Tryz.prog 205:=fun _ _=>by kernel_rfl
theorem ca206:Ca Tryz.prog 206:=fun _ _=>by kernel_rfl
theorem ca207:Ca Tryz.prog 207:=fun _ _=>by kernel_rfl
theorem ca208:Ca Tryz.prog 208:=fun _ _=>by kernel_rfl
theorem ca209:Ca Tryz.prog 209:=fun _ _=>by kernel_rfl
theorem ca210:Ca Tryz.prog 210:=fun _ _=>by kernel_rfl
theorem ca211:Ca Tryz.prog 211:=fun _ _=>by kernel_rfl
theorem ca212:Ca Tryz.prog 212:=fun _ _=>by kernel_rfl
theorem ca213:Ca Tryz.prog 213:=fun _ _=>by kernel_rfl
theorem ca214:Ca Tryz.prog 214:=fun _ _=>by kernel_rfl
theorem ca215:Ca Tryz.prog 215:=fun _ _=>by kernel_rfl
theorem ca216:Ca Tryz.prog 216:=fun _ _=>by kernel_rfl
theorem ca231:Ca Tryz.prog 231:=fun _ _=>by kernel_rfl
theorem ca237:Ca Tryz.prog 237:=fun _ _=>by kernel_rfl
theorem ca238:Ca Tryz.prog 238:=fun _ _=>by kernel_rfl
theorem ca239:Ca Tryz.prog 239:=fun _ _=>by kernel_rfl
theorem ca240:Ca Tryz.prog 240:=fun _ _=>by kernel_rfl
theorem ca248:Ca Tryz.prog 248:=fun _ _=>by kernel_rfl
theorem ca249:Ca Tryz.prog 249:=fun _ _=>by kernel_rfl
theorem ca253:Ca Tryz.prog 253:=fun _ _=>by kernel_rfl
theorem mixed:Tryz.prog.follows .mixedOrders=true:=by kernel_rfl
end Go.Proofs.YtpanhdnglicknaaGreat
