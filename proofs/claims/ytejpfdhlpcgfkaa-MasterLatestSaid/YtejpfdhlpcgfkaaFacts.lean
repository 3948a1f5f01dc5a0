/- Closed facts on the types of the program. -/
import Derived.Test.YtejpfdhlpcgfkaaAbsP
import Derived.Test.YtejpfdhlpcgfkaaProg
import Derived.KernelRfl
set_option linter.unusedVariables false
set_option linter.unusedSimpArgs false
set_option linter.unusedSectionVars false
namespace Go.Proofs.Ytejpfdhlpcgfkaa
open Go.Abs
theorem ts2 : tsz Try.prog 2 = some 1 := by kernel_rfl
theorem tb2 : tbytes Try.prog 2 = some 8 := by kernel_rfl
theorem tg2 : tag Try.prog 2 = some false := by kernel_rfl
theorem u2 : Try.prog.underlying 2 = some (.int .i64) := by kernel_rfl
theorem tz2 : tzero Try.prog 2 = some (.int .i64 0) := by kernel_rfl
theorem ts3 : tsz Try.prog 3 = some 1 := by kernel_rfl
theorem tb3 : tbytes Try.prog 3 = some 8 := by kernel_rfl
theorem tg3 : tag Try.prog 3 = some false := by kernel_rfl
theorem u3 : Try.prog.underlying 3 = some (.int .i64) := by kernel_rfl
theorem tz3 : tzero Try.prog 3 = some (.int .i64 0) := by kernel_rfl
theorem ts4 : tsz Try.prog 4 = some 1 := by kernel_rfl
theorem tb4 : tbytes Try.prog 4 = some 1 := by kernel_rfl
theorem tg4 : tag Try.prog 4 = some false := by kernel_rfl
theorem u4 : Try.prog.underlying 4 = some .bool := by kernel_rfl
theorem tz4 : tzero Try.prog 4 = some (.bool false) := by kernel_rfl
theorem ts5 : tsz Try.prog 5 = some 1 := by kernel_rfl
theorem tb5 : tbytes Try.prog 5 = some 1 := by kernel_rfl
theorem tg5 : tag Try.prog 5 = some false := by kernel_rfl
theorem u5 : Try.prog.underlying 5 = some (.int .u8) := by kernel_rfl
theorem tz5 : tzero Try.prog 5 = some (.int .u8 0) := by kernel_rfl
theorem ts9 : tsz Try.prog 9 = some 1 := by kernel_rfl
theorem tb9 : tbytes Try.prog 9 = some 16 := by kernel_rfl
theorem tg9 : tag Try.prog 9 = some false := by kernel_rfl
theorem u9 : Try.prog.underlying 9 = some .string := by kernel_rfl
theorem tz9 : tzero Try.prog 9 = some (.string ByteArray.empty) := by kernel_rfl
theorem ts12 : tsz Try.prog 12 = some 1 := by kernel_rfl
theorem tb12 : tbytes Try.prog 12 = some 8 := by kernel_rfl
theorem tg12 : tag Try.prog 12 = some false := by kernel_rfl
theorem u12 : Try.prog.underlying 12 = some (.int .u64) := by kernel_rfl
theorem tz12 : tzero Try.prog 12 = some (.int .u64 0) := by kernel_rfl
theorem ts13 : tsz Try.prog 13 = some 2 := by kernel_rfl
theorem tb13 : tbytes Try.prog 13 = some 24 := by kernel_rfl
theorem tg13 : tag Try.prog 13 = some true := by kernel_rfl
theorem u13 : Try.prog.underlying 13 = some (.struct (Try.prog.fieldsOf 13)) := by kernel_rfl
theorem tz13 : tzero Try.prog 13 = some (.agg #[(.string ByteArray.empty), (.int .u64 0)]) := by kernel_rfl
theorem tf13_0 : tfield Try.prog 13 0 = some (0, 9) := by kernel_rfl
theorem tf13_1 : tfield Try.prog 13 1 = some (1, 12) := by kernel_rfl
theorem tp13 : tplaces Try.prog 13 = some [(0, 1), (1, 1)] := by kernel_rfl
theorem ts15 : tsz Try.prog 15 = some 1 := by kernel_rfl
theorem tb15 : tbytes Try.prog 15 = some 8 := by kernel_rfl
theorem tg15 : tag Try.prog 15 = some false := by kernel_rfl
theorem u15 : Try.prog.underlying 15 = some (.pointer 97) := by kernel_rfl
theorem tz15 : tzero Try.prog 15 = some (.pointer none) := by kernel_rfl
theorem ts16 : tsz Try.prog 16 = some 1 := by kernel_rfl
theorem tb16 : tbytes Try.prog 16 = some 8 := by kernel_rfl
theorem tg16 : tag Try.prog 16 = some false := by kernel_rfl
theorem u16 : Try.prog.underlying 16 = some (.pointer 100) := by kernel_rfl
theorem tz16 : tzero Try.prog 16 = some (.pointer none) := by kernel_rfl
theorem ts17 : tsz Try.prog 17 = some 1 := by kernel_rfl
theorem tb17 : tbytes Try.prog 17 = some 8 := by kernel_rfl
theorem tg17 : tag Try.prog 17 = some false := by kernel_rfl
theorem u17 : Try.prog.underlying 17 = some (.pointer 109) := by kernel_rfl
theorem tz17 : tzero Try.prog 17 = some (.pointer none) := by kernel_rfl
theorem ts18 : tsz Try.prog 18 = some 1 := by kernel_rfl
theorem tb18 : tbytes Try.prog 18 = some 8 := by kernel_rfl
theorem tg18 : tag Try.prog 18 = some true := by kernel_rfl
theorem u18 : Try.prog.underlying 18 = some (.struct (Try.prog.fieldsOf 18)) := by kernel_rfl
theorem tz18 : tzero Try.prog 18 = some (.agg #[(.pointer none)]) := by kernel_rfl
theorem tf18_0 : tfield Try.prog 18 0 = some (0, 17) := by kernel_rfl
theorem tp18 : tplaces Try.prog 18 = some [(0, 1)] := by kernel_rfl
theorem ts21 : tsz Try.prog 21 = some 1 := by kernel_rfl
theorem tb21 : tbytes Try.prog 21 = some 4 := by kernel_rfl
theorem tg21 : tag Try.prog 21 = some false := by kernel_rfl
theorem u21 : Try.prog.underlying 21 = some (.int .i32) := by kernel_rfl
theorem tz21 : tzero Try.prog 21 = some (.int .i32 0) := by kernel_rfl
theorem ts22 : tsz Try.prog 22 = some 1 := by kernel_rfl
theorem tb22 : tbytes Try.prog 22 = some 24 := by kernel_rfl
theorem tg22 : tag Try.prog 22 = some false := by kernel_rfl
theorem u22 : Try.prog.underlying 22 = some (.slice 42) := by kernel_rfl
theorem tz22 : tzero Try.prog 22 = some (.slice none 0 0) := by kernel_rfl
theorem ts23 : tsz Try.prog 23 = some 1 := by kernel_rfl
theorem tb23 : tbytes Try.prog 23 = some 24 := by kernel_rfl
theorem tg23 : tag Try.prog 23 = some false := by kernel_rfl
theorem u23 : Try.prog.underlying 23 = some (.slice 3) := by kernel_rfl
theorem tz23 : tzero Try.prog 23 = some (.slice none 0 0) := by kernel_rfl
theorem ts26 : tsz Try.prog 26 = some 4 := by kernel_rfl
theorem tb26 : tbytes Try.prog 26 = some 32 := by kernel_rfl
theorem tg26 : tag Try.prog 26 = some true := by kernel_rfl
theorem u26 : Try.prog.underlying 26 = some (.array 4 3) := by kernel_rfl
theorem tz26 : tzero Try.prog 26 = some (.agg #[(.int .i64 0), (.int .i64 0), (.int .i64 0), (.int .i64 0)]) := by kernel_rfl
theorem eqx26 (a0 b0 : Int) (a1 b1 : Int) (a2 b2 : Int) (a3 b3 : Int) : abin Try.prog .eql 26 (.agg #[.int .i64 a0, .int .i64 a1, .int .i64 a2, .int .i64 a3]) (.agg #[.int .i64 b0, .int .i64 b1, .int .i64 b2, .int .i64 b3]) = some (.bool ((a0 == b0) && ((a1 == b1) && ((a2 == b2) && ((a3 == b3) && true))))) := by kernel_rfl
theorem eq26 (a0 b0 : Int) (a1 b1 : Int) (a2 b2 : Int) (a3 b3 : Int) : abin Try.prog .eql 26 (.agg #[.int .i64 a0, .int .i64 a1, .int .i64 a2, .int .i64 a3]) (.agg #[.int .i64 b0, .int .i64 b1, .int .i64 b2, .int .i64 b3]) = some (.bool ((a0 == b0) && ((a1 == b1) && ((a2 == b2) && ((a3 == b3)))))) := by rw [eqx26]; simp only [Bool.and_true]
theorem nex26 (a0 b0 : Int) (a1 b1 : Int) (a2 b2 : Int) (a3 b3 : Int) : abin Try.prog .neq 26 (.agg #[.int .i64 a0, .int .i64 a1, .int .i64 a2, .int .i64 a3]) (.agg #[.int .i64 b0, .int .i64 b1, .int .i64 b2, .int .i64 b3]) = some (.bool (!((a0 == b0) && ((a1 == b1) && ((a2 == b2) && ((a3 == b3) && true)))))) := by kernel_rfl
theorem ne26 (a0 b0 : Int) (a1 b1 : Int) (a2 b2 : Int) (a3 b3 : Int) : abin Try.prog .neq 26 (.agg #[.int .i64 a0, .int .i64 a1, .int .i64 a2, .int .i64 a3]) (.agg #[.int .i64 b0, .int .i64 b1, .int .i64 b2, .int .i64 b3]) = some (.bool (!((a0 == b0) && ((a1 == b1) && ((a2 == b2) && ((a3 == b3))))))) := by rw [nex26]; simp only [Bool.and_true]
theorem ts27 : tsz Try.prog 27 = some 4 := by kernel_rfl
theorem tb27 : tbytes Try.prog 27 = some 32 := by kernel_rfl
theorem tg27 : tag Try.prog 27 = some true := by kernel_rfl
theorem u27 : Try.prog.underlying 27 = some (.array 4 3) := by kernel_rfl
theorem tz27 : tzero Try.prog 27 = some (.agg #[(.int .i64 0), (.int .i64 0), (.int .i64 0), (.int .i64 0)]) := by kernel_rfl
theorem eqx27 (a0 b0 : Int) (a1 b1 : Int) (a2 b2 : Int) (a3 b3 : Int) : abin Try.prog .eql 27 (.agg #[.int .i64 a0, .int .i64 a1, .int .i64 a2, .int .i64 a3]) (.agg #[.int .i64 b0, .int .i64 b1, .int .i64 b2, .int .i64 b3]) = some (.bool ((a0 == b0) && ((a1 == b1) && ((a2 == b2) && ((a3 == b3) && true))))) := by kernel_rfl
theorem eq27 (a0 b0 : Int) (a1 b1 : Int) (a2 b2 : Int) (a3 b3 : Int) : abin Try.prog .eql 27 (.agg #[.int .i64 a0, .int .i64 a1, .int .i64 a2, .int .i64 a3]) (.agg #[.int .i64 b0, .int .i64 b1, .int .i64 b2, .int .i64 b3]) = some (.bool ((a0 == b0) && ((a1 == b1) && ((a2 == b2) && ((a3 == b3)))))) := by rw [eqx27]; simp only [Bool.and_true]
theorem nex27 (a0 b0 : Int) (a1 b1 : Int) (a2 b2 : Int) (a3 b3 : Int) : abin Try.prog .neq 27 (.agg #[.int .i64 a0, .int .i64 a1, .int .i64 a2, .int .i64 a3]) (.agg #[.int .i64 b0, .int .i64 b1, .int .i64 b2, .int .i64 b3]) = some (.bool (!((a0 == b0) && ((a1 == b1) && ((a2 == b2) && ((a3 == b3) && true)))))) := by kernel_rfl
theorem ne27 (a0 b0 : Int) (a1 b1 : Int) (a2 b2 : Int) (a3 b3 : Int) : abin Try.prog .neq 27 (.agg #[.int .i64 a0, .int .i64 a1, .int .i64 a2, .int .i64 a3]) (.agg #[.int .i64 b0, .int .i64 b1, .int .i64 b2, .int .i64 b3]) = some (.bool (!((a0 == b0) && ((a1 == b1) && ((a2 == b2) && ((a3 == b3))))))) := by rw [nex27]; simp only [Bool.and_true]
theorem ts28 : tsz Try.prog 28 = some 1 := by kernel_rfl
theorem tb28 : tbytes Try.prog 28 = some 8 := by kernel_rfl
theorem tg28 : tag Try.prog 28 = some false := by kernel_rfl
theorem u28 : Try.prog.underlying 28 = some (.int .i64) := by kernel_rfl
theorem tz28 : tzero Try.prog 28 = some (.int .i64 0) := by kernel_rfl
theorem ts35 : tsz Try.prog 35 = some 1 := by kernel_rfl
theorem tb35 : tbytes Try.prog 35 = some 2 := by kernel_rfl
theorem tg35 : tag Try.prog 35 = some false := by kernel_rfl
theorem u35 : Try.prog.underlying 35 = some (.int .u16) := by kernel_rfl
theorem tz35 : tzero Try.prog 35 = some (.int .u16 0) := by kernel_rfl
theorem ts37 : tsz Try.prog 37 = some 1 := by kernel_rfl
theorem tb37 : tbytes Try.prog 37 = some 24 := by kernel_rfl
theorem tg37 : tag Try.prog 37 = some false := by kernel_rfl
theorem u37 : Try.prog.underlying 37 = some (.slice 27) := by kernel_rfl
theorem tz37 : tzero Try.prog 37 = some (.slice none 0 0) := by kernel_rfl
theorem ts39 : tsz Try.prog 39 = some 4 := by kernel_rfl
theorem tb39 : tbytes Try.prog 39 = some 32 := by kernel_rfl
theorem tg39 : tag Try.prog 39 = some true := by kernel_rfl
theorem u39 : Try.prog.underlying 39 = some (.struct (Try.prog.fieldsOf 39)) := by kernel_rfl
theorem tz39 : tzero Try.prog 39 = some (.agg #[(.int .i64 0), (.int .i64 0), (.int .i64 0), (.int .i64 0)]) := by kernel_rfl
theorem tf39_0 : tfield Try.prog 39 0 = some (0, 3) := by kernel_rfl
theorem tf39_1 : tfield Try.prog 39 1 = some (1, 3) := by kernel_rfl
theorem tf39_2 : tfield Try.prog 39 2 = some (2, 3) := by kernel_rfl
theorem tf39_3 : tfield Try.prog 39 3 = some (3, 3) := by kernel_rfl
theorem tp39 : tplaces Try.prog 39 = some [(0, 1), (1, 1), (2, 1), (3, 1)] := by kernel_rfl
theorem eqx39 (a0 b0 : Int) (a1 b1 : Int) (a2 b2 : Int) (a3 b3 : Int) : abin Try.prog .eql 39 (.agg #[.int .i64 a0, .int .i64 a1, .int .i64 a2, .int .i64 a3]) (.agg #[.int .i64 b0, .int .i64 b1, .int .i64 b2, .int .i64 b3]) = some (.bool ((a0 == b0) && ((a1 == b1) && ((a2 == b2) && ((a3 == b3) && true))))) := by kernel_rfl
theorem eq39 (a0 b0 : Int) (a1 b1 : Int) (a2 b2 : Int) (a3 b3 : Int) : abin Try.prog .eql 39 (.agg #[.int .i64 a0, .int .i64 a1, .int .i64 a2, .int .i64 a3]) (.agg #[.int .i64 b0, .int .i64 b1, .int .i64 b2, .int .i64 b3]) = some (.bool ((a0 == b0) && ((a1 == b1) && ((a2 == b2) && ((a3 == b3)))))) := by rw [eqx39]; simp only [Bool.and_true]
theorem nex39 (a0 b0 : Int) (a1 b1 : Int) (a2 b2 : Int) (a3 b3 : Int) : abin Try.prog .neq 39 (.agg #[.int .i64 a0, .int .i64 a1, .int .i64 a2, .int .i64 a3]) (.agg #[.int .i64 b0, .int .i64 b1, .int .i64 b2, .int .i64 b3]) = some (.bool (!((a0 == b0) && ((a1 == b1) && ((a2 == b2) && ((a3 == b3) && true)))))) := by kernel_rfl
theorem ne39 (a0 b0 : Int) (a1 b1 : Int) (a2 b2 : Int) (a3 b3 : Int) : abin Try.prog .neq 39 (.agg #[.int .i64 a0, .int .i64 a1, .int .i64 a2, .int .i64 a3]) (.agg #[.int .i64 b0, .int .i64 b1, .int .i64 b2, .int .i64 b3]) = some (.bool (!((a0 == b0) && ((a1 == b1) && ((a2 == b2) && ((a3 == b3))))))) := by rw [nex39]; simp only [Bool.and_true]
theorem ts40 : tsz Try.prog 40 = some 4 := by kernel_rfl
theorem tb40 : tbytes Try.prog 40 = some 32 := by kernel_rfl
theorem tg40 : tag Try.prog 40 = some true := by kernel_rfl
theorem u40 : Try.prog.underlying 40 = some (.struct (Try.prog.fieldsOf 40)) := by kernel_rfl
theorem tz40 : tzero Try.prog 40 = some (.agg #[(.int .i64 0), (.int .i64 0), (.int .i64 0), (.int .i64 0)]) := by kernel_rfl
theorem tf40_0 : tfield Try.prog 40 0 = some (0, 3) := by kernel_rfl
theorem tf40_1 : tfield Try.prog 40 1 = some (1, 3) := by kernel_rfl
theorem tf40_2 : tfield Try.prog 40 2 = some (2, 3) := by kernel_rfl
theorem tf40_3 : tfield Try.prog 40 3 = some (3, 3) := by kernel_rfl
theorem tp40 : tplaces Try.prog 40 = some [(0, 1), (1, 1), (2, 1), (3, 1)] := by kernel_rfl
theorem eqx40 (a0 b0 : Int) (a1 b1 : Int) (a2 b2 : Int) (a3 b3 : Int) : abin Try.prog .eql 40 (.agg #[.int .i64 a0, .int .i64 a1, .int .i64 a2, .int .i64 a3]) (.agg #[.int .i64 b0, .int .i64 b1, .int .i64 b2, .int .i64 b3]) = some (.bool ((a0 == b0) && ((a1 == b1) && ((a2 == b2) && ((a3 == b3) && true))))) := by kernel_rfl
theorem eq40 (a0 b0 : Int) (a1 b1 : Int) (a2 b2 : Int) (a3 b3 : Int) : abin Try.prog .eql 40 (.agg #[.int .i64 a0, .int .i64 a1, .int .i64 a2, .int .i64 a3]) (.agg #[.int .i64 b0, .int .i64 b1, .int .i64 b2, .int .i64 b3]) = some (.bool ((a0 == b0) && ((a1 == b1) && ((a2 == b2) && ((a3 == b3)))))) := by rw [eqx40]; simp only [Bool.and_true]
theorem nex40 (a0 b0 : Int) (a1 b1 : Int) (a2 b2 : Int) (a3 b3 : Int) : abin Try.prog .neq 40 (.agg #[.int .i64 a0, .int .i64 a1, .int .i64 a2, .int .i64 a3]) (.agg #[.int .i64 b0, .int .i64 b1, .int .i64 b2, .int .i64 b3]) = some (.bool (!((a0 == b0) && ((a1 == b1) && ((a2 == b2) && ((a3 == b3) && true)))))) := by kernel_rfl
theorem ne40 (a0 b0 : Int) (a1 b1 : Int) (a2 b2 : Int) (a3 b3 : Int) : abin Try.prog .neq 40 (.agg #[.int .i64 a0, .int .i64 a1, .int .i64 a2, .int .i64 a3]) (.agg #[.int .i64 b0, .int .i64 b1, .int .i64 b2, .int .i64 b3]) = some (.bool (!((a0 == b0) && ((a1 == b1) && ((a2 == b2) && ((a3 == b3))))))) := by rw [nex40]; simp only [Bool.and_true]
theorem ts41 : tsz Try.prog 41 = some 9 := by kernel_rfl
theorem tb41 : tbytes Try.prog 41 = some 72 := by kernel_rfl
theorem tg41 : tag Try.prog 41 = some true := by kernel_rfl
theorem u41 : Try.prog.underlying 41 = some (.struct (Try.prog.fieldsOf 41)) := by kernel_rfl
theorem tz41 : tzero Try.prog 41 = some (.agg #[(.int .i64 0), (.int .i64 0), (.int .i64 0), (.int .i64 0), (.int .i64 0), (.int .i64 0), (.int .i64 0), (.int .i64 0), (.int .i64 0)]) := by kernel_rfl
theorem tf41_0 : tfield Try.prog 41 0 = some (0, 40) := by kernel_rfl
theorem tf41_1 : tfield Try.prog 41 1 = some (4, 3) := by kernel_rfl
theorem tf41_2 : tfield Try.prog 41 2 = some (5, 27) := by kernel_rfl
theorem tp41 : tplaces Try.prog 41 = some [(0, 4), (4, 1), (5, 4)] := by kernel_rfl
theorem ts42 : tsz Try.prog 42 = some 9 := by kernel_rfl
theorem tb42 : tbytes Try.prog 42 = some 72 := by kernel_rfl
theorem tg42 : tag Try.prog 42 = some true := by kernel_rfl
theorem u42 : Try.prog.underlying 42 = some (.struct (Try.prog.fieldsOf 42)) := by kernel_rfl
theorem tz42 : tzero Try.prog 42 = some (.agg #[(.int .i64 0), (.int .i64 0), (.int .i64 0), (.int .i64 0), (.int .i64 0), (.int .i64 0), (.int .i64 0), (.int .i64 0), (.int .i64 0)]) := by kernel_rfl
theorem tf42_0 : tfield Try.prog 42 0 = some (0, 40) := by kernel_rfl
theorem tf42_1 : tfield Try.prog 42 1 = some (4, 3) := by kernel_rfl
theorem tf42_2 : tfield Try.prog 42 2 = some (5, 27) := by kernel_rfl
theorem tp42 : tplaces Try.prog 42 = some [(0, 4), (4, 1), (5, 4)] := by kernel_rfl
theorem ts64 : tsz Try.prog 64 = some 1 := by kernel_rfl
theorem tb64 : tbytes Try.prog 64 = some 24 := by kernel_rfl
theorem tg64 : tag Try.prog 64 = some false := by kernel_rfl
theorem u64 : Try.prog.underlying 64 = some (.slice 4) := by kernel_rfl
theorem tz64 : tzero Try.prog 64 = some (.slice none 0 0) := by kernel_rfl
theorem ts72 : tsz Try.prog 72 = some 1 := by kernel_rfl
theorem tb72 : tbytes Try.prog 72 = some 8 := by kernel_rfl
theorem tg72 : tag Try.prog 72 = some false := by kernel_rfl
theorem u72 : Try.prog.underlying 72 = some (.int .u64) := by kernel_rfl
theorem tz72 : tzero Try.prog 72 = some (.int .u64 0) := by kernel_rfl
theorem ts74 : tsz Try.prog 74 = some 1 := by kernel_rfl
theorem tb74 : tbytes Try.prog 74 = some 8 := by kernel_rfl
theorem tg74 : tag Try.prog 74 = some false := by kernel_rfl
theorem u74 : Try.prog.underlying 74 = some (.int .i64) := by kernel_rfl
theorem tz74 : tzero Try.prog 74 = some (.int .i64 0) := by kernel_rfl
theorem ts83 : tsz Try.prog 83 = some 1 := by kernel_rfl
theorem tb83 : tbytes Try.prog 83 = some 4 := by kernel_rfl
theorem tg83 : tag Try.prog 83 = some false := by kernel_rfl
theorem u83 : Try.prog.underlying 83 = some (.int .u32) := by kernel_rfl
theorem tz83 : tzero Try.prog 83 = some (.int .u32 0) := by kernel_rfl
theorem ts85 : tsz Try.prog 85 = some 1 := by kernel_rfl
theorem tb85 : tbytes Try.prog 85 = some 8 := by kernel_rfl
theorem tg85 : tag Try.prog 85 = some false := by kernel_rfl
theorem u85 : Try.prog.underlying 85 = some (.int .u64) := by kernel_rfl
theorem tz85 : tzero Try.prog 85 = some (.int .u64 0) := by kernel_rfl
theorem ts86 : tsz Try.prog 86 = some 1 := by kernel_rfl
theorem tb86 : tbytes Try.prog 86 = some 8 := by kernel_rfl
theorem tg86 : tag Try.prog 86 = some false := by kernel_rfl
theorem u86 : Try.prog.underlying 86 = some (.int .u64) := by kernel_rfl
theorem tz86 : tzero Try.prog 86 = some (.int .u64 0) := by kernel_rfl
theorem ts90 : tsz Try.prog 90 = some 1 := by kernel_rfl
theorem tb90 : tbytes Try.prog 90 = some 8 := by kernel_rfl
theorem tg90 : tag Try.prog 90 = some false := by kernel_rfl
theorem u90 : Try.prog.underlying 90 = some (.pointer 3) := by kernel_rfl
theorem tz90 : tzero Try.prog 90 = some (.pointer none) := by kernel_rfl
theorem ts92 : tsz Try.prog 92 = some 1 := by kernel_rfl
theorem tb92 : tbytes Try.prog 92 = some 8 := by kernel_rfl
theorem tg92 : tag Try.prog 92 = some false := by kernel_rfl
theorem u92 : Try.prog.underlying 92 = some (.pointer 86) := by kernel_rfl
theorem tz92 : tzero Try.prog 92 = some (.pointer none) := by kernel_rfl
theorem ts98 : tsz Try.prog 98 = some 0 := by kernel_rfl
theorem tb98 : tbytes Try.prog 98 = some 0 := by kernel_rfl
theorem tg98 : tag Try.prog 98 = some true := by kernel_rfl
theorem u98 : Try.prog.underlying 98 = some (.array 0 16) := by kernel_rfl
theorem tz98 : tzero Try.prog 98 = some (.agg #[]) := by kernel_rfl
theorem ts105 : tsz Try.prog 105 = some 1 := by kernel_rfl
theorem tb105 : tbytes Try.prog 105 = some 8 := by kernel_rfl
theorem tg105 : tag Try.prog 105 = some false := by kernel_rfl
theorem u105 : Try.prog.underlying 105 = some (.pointer 5) := by kernel_rfl
theorem tz105 : tzero Try.prog 105 = some (.pointer none) := by kernel_rfl
theorem bs23_1_0 (H : Hp) (x0 : Int) : abuildSlice Try.prog H 23 1 [(0, .int .i64 x0)] = some (.slice (some ⟨H.next, 0, none⟩) 1 1, H.new (.row [.int .i64 x0] true 1)) := by kernel_rfl
theorem bs23_0_ (H : Hp)  : abuildSlice Try.prog H 23 0 [] = some (.slice (some ⟨H.next, 0, none⟩) 0 0, H.new (.row [] true 1)) := by kernel_rfl
theorem bs37_1_0 (H : Hp) (x0_0 : Int) (x0_1 : Int) (x0_2 : Int) (x0_3 : Int) : abuildSlice Try.prog H 37 1 [(0, .agg #[.int .i64 x0_0, .int .i64 x0_1, .int .i64 x0_2, .int .i64 x0_3])] = some (.slice (some ⟨H.next, 0, none⟩) 1 1, H.new (.row [.int .i64 x0_0, .int .i64 x0_1, .int .i64 x0_2, .int .i64 x0_3] true 4)) := by kernel_rfl
theorem bd27_  : abuild Try.prog 27 [] = some (.agg #[(.int .i64 0), (.int .i64 0), (.int .i64 0), (.int .i64 0)]) := by kernel_rfl
theorem bs22_0_ (H : Hp)  : abuildSlice Try.prog H 22 0 [] = some (.slice (some ⟨H.next, 0, none⟩) 0 0, H.new (.row [] true 9)) := by kernel_rfl
theorem bs22_1_0 (H : Hp) (x0_0 : Int) (x0_1 : Int) (x0_2 : Int) (x0_3 : Int) (x0_4 : Int) (x0_5 : Int) (x0_6 : Int) (x0_7 : Int) (x0_8 : Int) : abuildSlice Try.prog H 22 1 [(0, .agg #[.int .i64 x0_0, .int .i64 x0_1, .int .i64 x0_2, .int .i64 x0_3, .int .i64 x0_4, .int .i64 x0_5, .int .i64 x0_6, .int .i64 x0_7, .int .i64 x0_8])] = some (.slice (some ⟨H.next, 0, none⟩) 1 1, H.new (.row [.int .i64 x0_0, .int .i64 x0_1, .int .i64 x0_2, .int .i64 x0_3, .int .i64 x0_4, .int .i64 x0_5, .int .i64 x0_6, .int .i64 x0_7, .int .i64 x0_8] true 9)) := by kernel_rfl
theorem bs22_3_0_1_2 (H : Hp) (x0_0 : Int) (x0_1 : Int) (x0_2 : Int) (x0_3 : Int) (x0_4 : Int) (x0_5 : Int) (x0_6 : Int) (x0_7 : Int) (x0_8 : Int) (x1_0 : Int) (x1_1 : Int) (x1_2 : Int) (x1_3 : Int) (x1_4 : Int) (x1_5 : Int) (x1_6 : Int) (x1_7 : Int) (x1_8 : Int) (x2_0 : Int) (x2_1 : Int) (x2_2 : Int) (x2_3 : Int) (x2_4 : Int) (x2_5 : Int) (x2_6 : Int) (x2_7 : Int) (x2_8 : Int) : abuildSlice Try.prog H 22 3 [(0, .agg #[.int .i64 x0_0, .int .i64 x0_1, .int .i64 x0_2, .int .i64 x0_3, .int .i64 x0_4, .int .i64 x0_5, .int .i64 x0_6, .int .i64 x0_7, .int .i64 x0_8]), (1, .agg #[.int .i64 x1_0, .int .i64 x1_1, .int .i64 x1_2, .int .i64 x1_3, .int .i64 x1_4, .int .i64 x1_5, .int .i64 x1_6, .int .i64 x1_7, .int .i64 x1_8]), (2, .agg #[.int .i64 x2_0, .int .i64 x2_1, .int .i64 x2_2, .int .i64 x2_3, .int .i64 x2_4, .int .i64 x2_5, .int .i64 x2_6, .int .i64 x2_7, .int .i64 x2_8])] = some (.slice (some ⟨H.next, 0, none⟩) 3 3, H.new (.row [.int .i64 x0_0, .int .i64 x0_1, .int .i64 x0_2, .int .i64 x0_3, .int .i64 x0_4, .int .i64 x0_5, .int .i64 x0_6, .int .i64 x0_7, .int .i64 x0_8, .int .i64 x1_0, .int .i64 x1_1, .int .i64 x1_2, .int .i64 x1_3, .int .i64 x1_4, .int .i64 x1_5, .int .i64 x1_6, .int .i64 x1_7, .int .i64 x1_8, .int .i64 x2_0, .int .i64 x2_1, .int .i64 x2_2, .int .i64 x2_3, .int .i64 x2_4, .int .i64 x2_5, .int .i64 x2_6, .int .i64 x2_7, .int .i64 x2_8] true 9)) := by kernel_rfl
theorem bs23_4_0_1_2_3 (H : Hp) (x0 : Int) (x1 : Int) (x2 : Int) (x3 : Int) : abuildSlice Try.prog H 23 4 [(0, .int .i64 x0), (1, .int .i64 x1), (2, .int .i64 x2), (3, .int .i64 x3)] = some (.slice (some ⟨H.next, 0, none⟩) 4 4, H.new (.row [.int .i64 x0, .int .i64 x1, .int .i64 x2, .int .i64 x3] true 1)) := by kernel_rfl
theorem bd27_0_1_2_3 (x0 : Int) (x1 : Int) (x2 : Int) (x3 : Int) : abuild Try.prog 27 [(0, .int .i64 x0), (1, .int .i64 x1), (2, .int .i64 x2), (3, .int .i64 x3)] = some (.agg #[.int .i64 x0, .int .i64 x1, .int .i64 x2, .int .i64 x3]) := by kernel_rfl
theorem bd40_0_1_2_3 (x0 : Int) (x1 : Int) (x2 : Int) (x3 : Int) : abuild Try.prog 40 [(0, .int .i64 x0), (1, .int .i64 x1), (2, .int .i64 x2), (3, .int .i64 x3)] = some (.agg #[.int .i64 x0, .int .i64 x1, .int .i64 x2, .int .i64 x3]) := by kernel_rfl
theorem bd42_0_1 (x0_0 : Int) (x0_1 : Int) (x0_2 : Int) (x0_3 : Int) (x1 : Int) : abuild Try.prog 42 [(0, .agg #[.int .i64 x0_0, .int .i64 x0_1, .int .i64 x0_2, .int .i64 x0_3]), (1, .int .i64 x1)] = some (.agg #[.int .i64 x0_0, .int .i64 x0_1, .int .i64 x0_2, .int .i64 x0_3, .int .i64 x1, (.int .i64 0), (.int .i64 0), (.int .i64 0), (.int .i64 0)]) := by kernel_rfl
theorem bd40_0_2_3 (x0 : Int) (x1 : Int) (x2 : Int) : abuild Try.prog 40 [(0, .int .i64 x0), (2, .int .i64 x1), (3, .int .i64 x2)] = some (.agg #[.int .i64 x0, (.int .i64 0), .int .i64 x1, .int .i64 x2]) := by kernel_rfl
theorem bd42_0_1_2 (x0_0 : Int) (x0_1 : Int) (x0_2 : Int) (x0_3 : Int) (x1 : Int) (x2_0 : Int) (x2_1 : Int) (x2_2 : Int) (x2_3 : Int) : abuild Try.prog 42 [(0, .agg #[.int .i64 x0_0, .int .i64 x0_1, .int .i64 x0_2, .int .i64 x0_3]), (1, .int .i64 x1), (2, .agg #[.int .i64 x2_0, .int .i64 x2_1, .int .i64 x2_2, .int .i64 x2_3])] = some (.agg #[.int .i64 x0_0, .int .i64 x0_1, .int .i64 x0_2, .int .i64 x0_3, .int .i64 x1, .int .i64 x2_0, .int .i64 x2_1, .int .i64 x2_2, .int .i64 x2_3]) := by kernel_rfl
attribute [go_sem] ts2 tb2 tg2 u2 tz2 ts3 tb3 tg3 u3 tz3 ts4 tb4
attribute [go_sem] tg4 u4 tz4 ts5 tb5 tg5 u5 tz5 ts9 tb9 tg9 u9
attribute [go_sem] tz9 ts12 tb12 tg12 u12 tz12 ts13 tb13 tg13 u13 tz13 tf13_0
attribute [go_sem] tf13_1 tp13 ts15 tb15 tg15 u15 tz15 ts16 tb16 tg16 u16 tz16
attribute [go_sem] ts17 tb17 tg17 u17 tz17 ts18 tb18 tg18 u18 tz18 tf18_0 tp18
attribute [go_sem] ts21 tb21 tg21 u21 tz21 ts22 tb22 tg22 u22 tz22 ts23 tb23
attribute [go_sem] tg23 u23 tz23 ts26 tb26 tg26 u26 tz26 eq26 ne26 ts27 tb27
attribute [go_sem] tg27 u27 tz27 eq27 ne27 ts28 tb28 tg28 u28 tz28 ts35 tb35
attribute [go_sem] tg35 u35 tz35 ts37 tb37 tg37 u37 tz37 ts39 tb39 tg39 u39
attribute [go_sem] tz39 tf39_0 tf39_1 tf39_2 tf39_3 tp39 eq39 ne39 ts40 tb40 tg40 u40
attribute [go_sem] tz40 tf40_0 tf40_1 tf40_2 tf40_3 tp40 eq40 ne40 ts41 tb41 tg41 u41
attribute [go_sem] tz41 tf41_0 tf41_1 tf41_2 tp41 ts42 tb42 tg42 u42 tz42
attribute [go_sem] tf42_0 tf42_1 tf42_2 tp42 ts64 tb64 tg64 u64 tz64 ts72
attribute [go_sem] tb72 tg72 u72 tz72 ts74 tb74 tg74 u74 tz74 ts83 tb83 tg83
attribute [go_sem] u83 tz83 ts85 tb85 tg85 u85 tz85 ts86 tb86 tg86 u86 tz86
attribute [go_sem] ts90 tb90 tg90 u90 tz90 ts92 tb92 tg92 u92 tz92 ts98 tb98
attribute [go_sem] tg98 u98 tz98 ts105 tb105 tg105 u105 tz105 bs23_1_0 bs23_0_ bs37_1_0 bd27_
attribute [go_sem] bs22_0_ bs22_1_0 bs22_3_0_1_2 bs23_4_0_1_2_3 bd27_0_1_2_3 bd40_0_1_2_3 bd42_0_1 bd40_0_2_3 bd42_0_1_2
theorem ts44 : tsz Try.prog 44 = some 1 := by kernel_rfl
theorem tb44 : tbytes Try.prog 44 = some 8 := by kernel_rfl
theorem tg44 : tag Try.prog 44 = some false := by kernel_rfl
theorem tz44 : tzero Try.prog 44 = some Value.nilFunc := by kernel_rfl
theorem ts53 : tsz Try.prog 53 = some 1 := by kernel_rfl
theorem tb53 : tbytes Try.prog 53 = some 8 := by kernel_rfl
theorem tg53 : tag Try.prog 53 = some false := by kernel_rfl
theorem tz53 : tzero Try.prog 53 = some Value.nilFunc := by kernel_rfl
attribute [go_sem] ts44 tb44 tg44 tz44 ts53 tb53 tg53 tz53
end Go.Proofs.Ytejpfdhlpcgfkaa
