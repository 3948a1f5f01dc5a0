/- Closed facts on the types of the program. -/
import Derived.Test.YtalijeodmmlfjaaAbsP
import Derived.Test.YtalijeodmmlfjaaProg
import Derived.KernelRfl
set_option linter.unusedVariables false
set_option linter.unusedSimpArgs false
set_option linter.unusedSectionVars false
namespace Go.Proofs.Ytalijeodmmlfjaa
open Go.Abs
theorem ts2 : tsz Try.prog 2 = some 1 := by kernel_rfl
theorem tb2 : tbytes Try.prog 2 = some 8 := by kernel_rfl
theorem tg2 : tag Try.prog 2 = some false := by kernel_rfl
theorem u2 : Try.prog.underlying 2 = some (.int .i64) := by kernel_rfl
theorem tz2 : tzero Try.prog 2 = some (.int .i64 0) := by kernel_rfl
theorem ts3 : tsz Try.prog 3 = some 1 := by kernel_rfl
theorem tb3 : tbytes Try.prog 3 = some 8 := by kernel_rfl
theorem tg3 : tag Try.prog 3 = some false := by kernel_rfl
theorem u3 : Try.prog.underlying 3 = some (.int .i64) := by kernel_rfl
theorem tz3 : tzero Try.prog 3 = some (.int .i64 0) := by kernel_rfl
theorem ts4 : tsz Try.prog 4 = some 1 := by kernel_rfl
theorem tb4 : tbytes Try.prog 4 = some 1 := by kernel_rfl
theorem tg4 : tag Try.prog 4 = some false := by kernel_rfl
theorem u4 : Try.prog.underlying 4 = some .bool := by kernel_rfl
theorem tz4 : tzero Try.prog 4 = some (.bool false) := by kernel_rfl
theorem ts5 : tsz Try.prog 5 = some 1 := by kernel_rfl
theorem tb5 : tbytes Try.prog 5 = some 1 := by kernel_rfl
theorem tg5 : tag Try.prog 5 = some false := by kernel_rfl
theorem u5 : Try.prog.underlying 5 = some (.int .u8) := by kernel_rfl
theorem tz5 : tzero Try.prog 5 = some (.int .u8 0) := by kernel_rfl
theorem ts9 : tsz Try.prog 9 = some 1 := by kernel_rfl
theorem tb9 : tbytes Try.prog 9 = some 16 := by kernel_rfl
theorem tg9 : tag Try.prog 9 = some false := by kernel_rfl
theorem u9 : Try.prog.underlying 9 = some .string := by kernel_rfl
theorem tz9 : tzero Try.prog 9 = some (.string ByteArray.empty) := by kernel_rfl
theorem ts12 : tsz Try.prog 12 = some 1 := by kernel_rfl
theorem tb12 : tbytes Try.prog 12 = some 8 := by kernel_rfl
theorem tg12 : tag Try.prog 12 = some false := by kernel_rfl
theorem u12 : Try.prog.underlying 12 = some (.int .u64) := by kernel_rfl
theorem tz12 : tzero Try.prog 12 = some (.int .u64 0) := by kernel_rfl
theorem ts13 : tsz Try.prog 13 = some 2 := by kernel_rfl
theorem tb13 : tbytes Try.prog 13 = some 24 := by kernel_rfl
theorem tg13 : tag Try.prog 13 = some true := by kernel_rfl
theorem u13 : Try.prog.underlying 13 = some (.struct (Try.prog.fieldsOf 13)) := by kernel_rfl
theorem tz13 : tzero Try.prog 13 = some (.agg #[(.string ByteArray.empty), (.int .u64 0)]) := by kernel_rfl
theorem tf13_0 : tfield Try.prog 13 0 = some (0, 9) := by kernel_rfl
theorem tf13_1 : tfield Try.prog 13 1 = some (1, 12) := by kernel_rfl
theorem tp13 : tplaces Try.prog 13 = some [(0, 1), (1, 1)] := by kernel_rfl
theorem ts15 : tsz Try.prog 15 = some 1 := by kernel_rfl
theorem tb15 : tbytes Try.prog 15 = some 8 := by kernel_rfl
theorem tg15 : tag Try.prog 15 = some false := by kernel_rfl
theorem u15 : Try.prog.underlying 15 = some (.pointer 76) := by kernel_rfl
theorem tz15 : tzero Try.prog 15 = some (.pointer none) := by kernel_rfl
theorem ts16 : tsz Try.prog 16 = some 1 := by kernel_rfl
theorem tb16 : tbytes Try.prog 16 = some 8 := by kernel_rfl
theorem tg16 : tag Try.prog 16 = some false := by kernel_rfl
theorem u16 : Try.prog.underlying 16 = some (.pointer 79) := by kernel_rfl
theorem tz16 : tzero Try.prog 16 = some (.pointer none) := by kernel_rfl
theorem ts17 : tsz Try.prog 17 = some 1 := by kernel_rfl
theorem tb17 : tbytes Try.prog 17 = some 8 := by kernel_rfl
theorem tg17 : tag Try.prog 17 = some false := by kernel_rfl
theorem u17 : Try.prog.underlying 17 = some (.pointer 88) := by kernel_rfl
theorem tz17 : tzero Try.prog 17 = some (.pointer none) := by kernel_rfl
theorem ts18 : tsz Try.prog 18 = some 1 := by kernel_rfl
theorem tb18 : tbytes Try.prog 18 = some 8 := by kernel_rfl
theorem tg18 : tag Try.prog 18 = some true := by kernel_rfl
theorem u18 : Try.prog.underlying 18 = some (.struct (Try.prog.fieldsOf 18)) := by kernel_rfl
theorem tz18 : tzero Try.prog 18 = some (.agg #[(.pointer none)]) := by kernel_rfl
theorem tf18_0 : tfield Try.prog 18 0 = some (0, 17) := by kernel_rfl
theorem tp18 : tplaces Try.prog 18 = some [(0, 1)] := by kernel_rfl
theorem ts21 : tsz Try.prog 21 = some 1 := by kernel_rfl
theorem tb21 : tbytes Try.prog 21 = some 4 := by kernel_rfl
theorem tg21 : tag Try.prog 21 = some false := by kernel_rfl
theorem u21 : Try.prog.underlying 21 = some (.int .i32) := by kernel_rfl
theorem tz21 : tzero Try.prog 21 = some (.int .i32 0) := by kernel_rfl
theorem ts22 : tsz Try.prog 22 = some 1 := by kernel_rfl
theorem tb22 : tbytes Try.prog 22 = some 24 := by kernel_rfl
theorem tg22 : tag Try.prog 22 = some false := by kernel_rfl
theorem u22 : Try.prog.underlying 22 = some (.slice 36) := by kernel_rfl
theorem tz22 : tzero Try.prog 22 = some (.slice none 0 0) := by kernel_rfl
theorem ts25 : tsz Try.prog 25 = some 4 := by kernel_rfl
theorem tb25 : tbytes Try.prog 25 = some 4 := by kernel_rfl
theorem tg25 : tag Try.prog 25 = some true := by kernel_rfl
theorem u25 : Try.prog.underlying 25 = some (.array 4 4) := by kernel_rfl
theorem tz25 : tzero Try.prog 25 = some (.agg #[(.bool false), (.bool false), (.bool false), (.bool false)]) := by kernel_rfl
theorem eqx25 (a0 b0 : Bool) (a1 b1 : Bool) (a2 b2 : Bool) (a3 b3 : Bool) : abin Try.prog .eql 25 (.agg #[.bool a0, .bool a1, .bool a2, .bool a3]) (.agg #[.bool b0, .bool b1, .bool b2, .bool b3]) = some (.bool ((a0 == b0) && ((a1 == b1) && ((a2 == b2) && ((a3 == b3) && true))))) := by kernel_rfl
theorem eq25 (a0 b0 : Bool) (a1 b1 : Bool) (a2 b2 : Bool) (a3 b3 : Bool) : abin Try.prog .eql 25 (.agg #[.bool a0, .bool a1, .bool a2, .bool a3]) (.agg #[.bool b0, .bool b1, .bool b2, .bool b3]) = some (.bool ((a0 == b0) && ((a1 == b1) && ((a2 == b2) && ((a3 == b3)))))) := by rw [eqx25]; simp only [Bool.and_true]
theorem nex25 (a0 b0 : Bool) (a1 b1 : Bool) (a2 b2 : Bool) (a3 b3 : Bool) : abin Try.prog .neq 25 (.agg #[.bool a0, .bool a1, .bool a2, .bool a3]) (.agg #[.bool b0, .bool b1, .bool b2, .bool b3]) = some (.bool (!((a0 == b0) && ((a1 == b1) && ((a2 == b2) && ((a3 == b3) && true)))))) := by kernel_rfl
theorem ne25 (a0 b0 : Bool) (a1 b1 : Bool) (a2 b2 : Bool) (a3 b3 : Bool) : abin Try.prog .neq 25 (.agg #[.bool a0, .bool a1, .bool a2, .bool a3]) (.agg #[.bool b0, .bool b1, .bool b2, .bool b3]) = some (.bool (!((a0 == b0) && ((a1 == b1) && ((a2 == b2) && ((a3 == b3))))))) := by rw [nex25]; simp only [Bool.and_true]
theorem ts26 : tsz Try.prog 26 = some 4 := by kernel_rfl
theorem tb26 : tbytes Try.prog 26 = some 4 := by kernel_rfl
theorem tg26 : tag Try.prog 26 = some true := by kernel_rfl
theorem u26 : Try.prog.underlying 26 = some (.array 4 4) := by kernel_rfl
theorem tz26 : tzero Try.prog 26 = some (.agg #[(.bool false), (.bool false), (.bool false), (.bool false)]) := by kernel_rfl
theorem eqx26 (a0 b0 : Bool) (a1 b1 : Bool) (a2 b2 : Bool) (a3 b3 : Bool) : abin Try.prog .eql 26 (.agg #[.bool a0, .bool a1, .bool a2, .bool a3]) (.agg #[.bool b0, .bool b1, .bool b2, .bool b3]) = some (.bool ((a0 == b0) && ((a1 == b1) && ((a2 == b2) && ((a3 == b3) && true))))) := by kernel_rfl
theorem eq26 (a0 b0 : Bool) (a1 b1 : Bool) (a2 b2 : Bool) (a3 b3 : Bool) : abin Try.prog .eql 26 (.agg #[.bool a0, .bool a1, .bool a2, .bool a3]) (.agg #[.bool b0, .bool b1, .bool b2, .bool b3]) = some (.bool ((a0 == b0) && ((a1 == b1) && ((a2 == b2) && ((a3 == b3)))))) := by rw [eqx26]; simp only [Bool.and_true]
theorem nex26 (a0 b0 : Bool) (a1 b1 : Bool) (a2 b2 : Bool) (a3 b3 : Bool) : abin Try.prog .neq 26 (.agg #[.bool a0, .bool a1, .bool a2, .bool a3]) (.agg #[.bool b0, .bool b1, .bool b2, .bool b3]) = some (.bool (!((a0 == b0) && ((a1 == b1) && ((a2 == b2) && ((a3 == b3) && true)))))) := by kernel_rfl
theorem ne26 (a0 b0 : Bool) (a1 b1 : Bool) (a2 b2 : Bool) (a3 b3 : Bool) : abin Try.prog .neq 26 (.agg #[.bool a0, .bool a1, .bool a2, .bool a3]) (.agg #[.bool b0, .bool b1, .bool b2, .bool b3]) = some (.bool (!((a0 == b0) && ((a1 == b1) && ((a2 == b2) && ((a3 == b3))))))) := by rw [nex26]; simp only [Bool.and_true]
theorem ts27 : tsz Try.prog 27 = some 1 := by kernel_rfl
theorem tb27 : tbytes Try.prog 27 = some 8 := by kernel_rfl
theorem tg27 : tag Try.prog 27 = some false := by kernel_rfl
theorem u27 : Try.prog.underlying 27 = some (.int .i64) := by kernel_rfl
theorem tz27 : tzero Try.prog 27 = some (.int .i64 0) := by kernel_rfl
theorem ts30 : tsz Try.prog 30 = some 1 := by kernel_rfl
theorem tb30 : tbytes Try.prog 30 = some 24 := by kernel_rfl
theorem tg30 : tag Try.prog 30 = some false := by kernel_rfl
theorem u30 : Try.prog.underlying 30 = some (.slice 39) := by kernel_rfl
theorem tz30 : tzero Try.prog 30 = some (.slice none 0 0) := by kernel_rfl
theorem ts35 : tsz Try.prog 35 = some 5 := by kernel_rfl
theorem tb35 : tbytes Try.prog 35 = some 40 := by kernel_rfl
theorem tg35 : tag Try.prog 35 = some true := by kernel_rfl
theorem u35 : Try.prog.underlying 35 = some (.struct (Try.prog.fieldsOf 35)) := by kernel_rfl
theorem tz35 : tzero Try.prog 35 = some (.agg #[(.int .i64 0), (.int .i64 0), (.int .i64 0), (.int .i64 0), (.int .i64 0)]) := by kernel_rfl
theorem tf35_0 : tfield Try.prog 35 0 = some (0, 3) := by kernel_rfl
theorem tf35_1 : tfield Try.prog 35 1 = some (1, 3) := by kernel_rfl
theorem tf35_2 : tfield Try.prog 35 2 = some (2, 3) := by kernel_rfl
theorem tf35_3 : tfield Try.prog 35 3 = some (3, 3) := by kernel_rfl
theorem tf35_4 : tfield Try.prog 35 4 = some (4, 3) := by kernel_rfl
theorem tp35 : tplaces Try.prog 35 = some [(0, 1), (1, 1), (2, 1), (3, 1), (4, 1)] := by kernel_rfl
theorem eqx35 (a0 b0 : Int) (a1 b1 : Int) (a2 b2 : Int) (a3 b3 : Int) (a4 b4 : Int) : abin Try.prog .eql 35 (.agg #[.int .i64 a0, .int .i64 a1, .int .i64 a2, .int .i64 a3, .int .i64 a4]) (.agg #[.int .i64 b0, .int .i64 b1, .int .i64 b2, .int .i64 b3, .int .i64 b4]) = some (.bool ((a0 == b0) && ((a1 == b1) && ((a2 == b2) && ((a3 == b3) && ((a4 == b4) && true)))))) := by kernel_rfl
theorem eq35 (a0 b0 : Int) (a1 b1 : Int) (a2 b2 : Int) (a3 b3 : Int) (a4 b4 : Int) : abin Try.prog .eql 35 (.agg #[.int .i64 a0, .int .i64 a1, .int .i64 a2, .int .i64 a3, .int .i64 a4]) (.agg #[.int .i64 b0, .int .i64 b1, .int .i64 b2, .int .i64 b3, .int .i64 b4]) = some (.bool ((a0 == b0) && ((a1 == b1) && ((a2 == b2) && ((a3 == b3) && ((a4 == b4))))))) := by rw [eqx35]; simp only [Bool.and_true]
theorem nex35 (a0 b0 : Int) (a1 b1 : Int) (a2 b2 : Int) (a3 b3 : Int) (a4 b4 : Int) : abin Try.prog .neq 35 (.agg #[.int .i64 a0, .int .i64 a1, .int .i64 a2, .int .i64 a3, .int .i64 a4]) (.agg #[.int .i64 b0, .int .i64 b1, .int .i64 b2, .int .i64 b3, .int .i64 b4]) = some (.bool (!((a0 == b0) && ((a1 == b1) && ((a2 == b2) && ((a3 == b3) && ((a4 == b4) && true))))))) := by kernel_rfl
theorem ne35 (a0 b0 : Int) (a1 b1 : Int) (a2 b2 : Int) (a3 b3 : Int) (a4 b4 : Int) : abin Try.prog .neq 35 (.agg #[.int .i64 a0, .int .i64 a1, .int .i64 a2, .int .i64 a3, .int .i64 a4]) (.agg #[.int .i64 b0, .int .i64 b1, .int .i64 b2, .int .i64 b3, .int .i64 b4]) = some (.bool (!((a0 == b0) && ((a1 == b1) && ((a2 == b2) && ((a3 == b3) && ((a4 == b4)))))))) := by rw [nex35]; simp only [Bool.and_true]
theorem ts36 : tsz Try.prog 36 = some 5 := by kernel_rfl
theorem tb36 : tbytes Try.prog 36 = some 40 := by kernel_rfl
theorem tg36 : tag Try.prog 36 = some true := by kernel_rfl
theorem u36 : Try.prog.underlying 36 = some (.struct (Try.prog.fieldsOf 36)) := by kernel_rfl
theorem tz36 : tzero Try.prog 36 = some (.agg #[(.int .i64 0), (.int .i64 0), (.int .i64 0), (.int .i64 0), (.int .i64 0)]) := by kernel_rfl
theorem tf36_0 : tfield Try.prog 36 0 = some (0, 3) := by kernel_rfl
theorem tf36_1 : tfield Try.prog 36 1 = some (1, 3) := by kernel_rfl
theorem tf36_2 : tfield Try.prog 36 2 = some (2, 3) := by kernel_rfl
theorem tf36_3 : tfield Try.prog 36 3 = some (3, 3) := by kernel_rfl
theorem tf36_4 : tfield Try.prog 36 4 = some (4, 3) := by kernel_rfl
theorem tp36 : tplaces Try.prog 36 = some [(0, 1), (1, 1), (2, 1), (3, 1), (4, 1)] := by kernel_rfl
theorem eqx36 (a0 b0 : Int) (a1 b1 : Int) (a2 b2 : Int) (a3 b3 : Int) (a4 b4 : Int) : abin Try.prog .eql 36 (.agg #[.int .i64 a0, .int .i64 a1, .int .i64 a2, .int .i64 a3, .int .i64 a4]) (.agg #[.int .i64 b0, .int .i64 b1, .int .i64 b2, .int .i64 b3, .int .i64 b4]) = some (.bool ((a0 == b0) && ((a1 == b1) && ((a2 == b2) && ((a3 == b3) && ((a4 == b4) && true)))))) := by kernel_rfl
theorem eq36 (a0 b0 : Int) (a1 b1 : Int) (a2 b2 : Int) (a3 b3 : Int) (a4 b4 : Int) : abin Try.prog .eql 36 (.agg #[.int .i64 a0, .int .i64 a1, .int .i64 a2, .int .i64 a3, .int .i64 a4]) (.agg #[.int .i64 b0, .int .i64 b1, .int .i64 b2, .int .i64 b3, .int .i64 b4]) = some (.bool ((a0 == b0) && ((a1 == b1) && ((a2 == b2) && ((a3 == b3) && ((a4 == b4))))))) := by rw [eqx36]; simp only [Bool.and_true]
theorem nex36 (a0 b0 : Int) (a1 b1 : Int) (a2 b2 : Int) (a3 b3 : Int) (a4 b4 : Int) : abin Try.prog .neq 36 (.agg #[.int .i64 a0, .int .i64 a1, .int .i64 a2, .int .i64 a3, .int .i64 a4]) (.agg #[.int .i64 b0, .int .i64 b1, .int .i64 b2, .int .i64 b3, .int .i64 b4]) = some (.bool (!((a0 == b0) && ((a1 == b1) && ((a2 == b2) && ((a3 == b3) && ((a4 == b4) && true))))))) := by kernel_rfl
theorem ne36 (a0 b0 : Int) (a1 b1 : Int) (a2 b2 : Int) (a3 b3 : Int) (a4 b4 : Int) : abin Try.prog .neq 36 (.agg #[.int .i64 a0, .int .i64 a1, .int .i64 a2, .int .i64 a3, .int .i64 a4]) (.agg #[.int .i64 b0, .int .i64 b1, .int .i64 b2, .int .i64 b3, .int .i64 b4]) = some (.bool (!((a0 == b0) && ((a1 == b1) && ((a2 == b2) && ((a3 == b3) && ((a4 == b4)))))))) := by rw [nex36]; simp only [Bool.and_true]
theorem ts38 : tsz Try.prog 38 = some 2 := by kernel_rfl
theorem tb38 : tbytes Try.prog 38 = some 16 := by kernel_rfl
theorem tg38 : tag Try.prog 38 = some true := by kernel_rfl
theorem u38 : Try.prog.underlying 38 = some (.struct (Try.prog.fieldsOf 38)) := by kernel_rfl
theorem tz38 : tzero Try.prog 38 = some (.agg #[(.int .i64 0), (.int .i64 0)]) := by kernel_rfl
theorem tf38_0 : tfield Try.prog 38 0 = some (0, 3) := by kernel_rfl
theorem tf38_1 : tfield Try.prog 38 1 = some (1, 3) := by kernel_rfl
theorem tp38 : tplaces Try.prog 38 = some [(0, 1), (1, 1)] := by kernel_rfl
theorem eqx38 (a0 b0 : Int) (a1 b1 : Int) : abin Try.prog .eql 38 (.agg #[.int .i64 a0, .int .i64 a1]) (.agg #[.int .i64 b0, .int .i64 b1]) = some (.bool ((a0 == b0) && ((a1 == b1) && true))) := by kernel_rfl
theorem eq38 (a0 b0 : Int) (a1 b1 : Int) : abin Try.prog .eql 38 (.agg #[.int .i64 a0, .int .i64 a1]) (.agg #[.int .i64 b0, .int .i64 b1]) = some (.bool ((a0 == b0) && ((a1 == b1)))) := by rw [eqx38]; simp only [Bool.and_true]
theorem nex38 (a0 b0 : Int) (a1 b1 : Int) : abin Try.prog .neq 38 (.agg #[.int .i64 a0, .int .i64 a1]) (.agg #[.int .i64 b0, .int .i64 b1]) = some (.bool (!((a0 == b0) && ((a1 == b1) && true)))) := by kernel_rfl
theorem ne38 (a0 b0 : Int) (a1 b1 : Int) : abin Try.prog .neq 38 (.agg #[.int .i64 a0, .int .i64 a1]) (.agg #[.int .i64 b0, .int .i64 b1]) = some (.bool (!((a0 == b0) && ((a1 == b1))))) := by rw [nex38]; simp only [Bool.and_true]
theorem ts39 : tsz Try.prog 39 = some 2 := by kernel_rfl
theorem tb39 : tbytes Try.prog 39 = some 16 := by kernel_rfl
theorem tg39 : tag Try.prog 39 = some true := by kernel_rfl
theorem u39 : Try.prog.underlying 39 = some (.struct (Try.prog.fieldsOf 39)) := by kernel_rfl
theorem tz39 : tzero Try.prog 39 = some (.agg #[(.int .i64 0), (.int .i64 0)]) := by kernel_rfl
theorem tf39_0 : tfield Try.prog 39 0 = some (0, 3) := by kernel_rfl
theorem tf39_1 : tfield Try.prog 39 1 = some (1, 3) := by kernel_rfl
theorem tp39 : tplaces Try.prog 39 = some [(0, 1), (1, 1)] := by kernel_rfl
theorem eqx39 (a0 b0 : Int) (a1 b1 : Int) : abin Try.prog .eql 39 (.agg #[.int .i64 a0, .int .i64 a1]) (.agg #[.int .i64 b0, .int .i64 b1]) = some (.bool ((a0 == b0) && ((a1 == b1) && true))) := by kernel_rfl
theorem eq39 (a0 b0 : Int) (a1 b1 : Int) : abin Try.prog .eql 39 (.agg #[.int .i64 a0, .int .i64 a1]) (.agg #[.int .i64 b0, .int .i64 b1]) = some (.bool ((a0 == b0) && ((a1 == b1)))) := by rw [eqx39]; simp only [Bool.and_true]
theorem nex39 (a0 b0 : Int) (a1 b1 : Int) : abin Try.prog .neq 39 (.agg #[.int .i64 a0, .int .i64 a1]) (.agg #[.int .i64 b0, .int .i64 b1]) = some (.bool (!((a0 == b0) && ((a1 == b1) && true)))) := by kernel_rfl
theorem ne39 (a0 b0 : Int) (a1 b1 : Int) : abin Try.prog .neq 39 (.agg #[.int .i64 a0, .int .i64 a1]) (.agg #[.int .i64 b0, .int .i64 b1]) = some (.bool (!((a0 == b0) && ((a1 == b1))))) := by rw [nex39]; simp only [Bool.and_true]
theorem ts45 : tsz Try.prog 45 = some 1 := by kernel_rfl
theorem tb45 : tbytes Try.prog 45 = some 24 := by kernel_rfl
theorem tg45 : tag Try.prog 45 = some false := by kernel_rfl
theorem u45 : Try.prog.underlying 45 = some (.slice 3) := by kernel_rfl
theorem tz45 : tzero Try.prog 45 = some (.slice none 0 0) := by kernel_rfl
theorem ts51 : tsz Try.prog 51 = some 1 := by kernel_rfl
theorem tb51 : tbytes Try.prog 51 = some 8 := by kernel_rfl
theorem tg51 : tag Try.prog 51 = some false := by kernel_rfl
theorem u51 : Try.prog.underlying 51 = some (.int .u64) := by kernel_rfl
theorem tz51 : tzero Try.prog 51 = some (.int .u64 0) := by kernel_rfl
theorem ts53 : tsz Try.prog 53 = some 1 := by kernel_rfl
theorem tb53 : tbytes Try.prog 53 = some 8 := by kernel_rfl
theorem tg53 : tag Try.prog 53 = some false := by kernel_rfl
theorem u53 : Try.prog.underlying 53 = some (.int .i64) := by kernel_rfl
theorem tz53 : tzero Try.prog 53 = some (.int .i64 0) := by kernel_rfl
theorem ts62 : tsz Try.prog 62 = some 1 := by kernel_rfl
theorem tb62 : tbytes Try.prog 62 = some 4 := by kernel_rfl
theorem tg62 : tag Try.prog 62 = some false := by kernel_rfl
theorem u62 : Try.prog.underlying 62 = some (.int .u32) := by kernel_rfl
theorem tz62 : tzero Try.prog 62 = some (.int .u32 0) := by kernel_rfl
theorem ts64 : tsz Try.prog 64 = some 1 := by kernel_rfl
theorem tb64 : tbytes Try.prog 64 = some 8 := by kernel_rfl
theorem tg64 : tag Try.prog 64 = some false := by kernel_rfl
theorem u64 : Try.prog.underlying 64 = some (.int .u64) := by kernel_rfl
theorem tz64 : tzero Try.prog 64 = some (.int .u64 0) := by kernel_rfl
theorem ts65 : tsz Try.prog 65 = some 1 := by kernel_rfl
theorem tb65 : tbytes Try.prog 65 = some 8 := by kernel_rfl
theorem tg65 : tag Try.prog 65 = some false := by kernel_rfl
theorem u65 : Try.prog.underlying 65 = some (.int .u64) := by kernel_rfl
theorem tz65 : tzero Try.prog 65 = some (.int .u64 0) := by kernel_rfl
theorem ts69 : tsz Try.prog 69 = some 1 := by kernel_rfl
theorem tb69 : tbytes Try.prog 69 = some 8 := by kernel_rfl
theorem tg69 : tag Try.prog 69 = some false := by kernel_rfl
theorem u69 : Try.prog.underlying 69 = some (.pointer 3) := by kernel_rfl
theorem tz69 : tzero Try.prog 69 = some (.pointer none) := by kernel_rfl
theorem ts71 : tsz Try.prog 71 = some 1 := by kernel_rfl
theorem tb71 : tbytes Try.prog 71 = some 8 := by kernel_rfl
theorem tg71 : tag Try.prog 71 = some false := by kernel_rfl
theorem u71 : Try.prog.underlying 71 = some (.pointer 65) := by kernel_rfl
theorem tz71 : tzero Try.prog 71 = some (.pointer none) := by kernel_rfl
theorem ts77 : tsz Try.prog 77 = some 0 := by kernel_rfl
theorem tb77 : tbytes Try.prog 77 = some 0 := by kernel_rfl
theorem tg77 : tag Try.prog 77 = some true := by kernel_rfl
theorem u77 : Try.prog.underlying 77 = some (.array 0 16) := by kernel_rfl
theorem tz77 : tzero Try.prog 77 = some (.agg #[]) := by kernel_rfl
theorem ts84 : tsz Try.prog 84 = some 1 := by kernel_rfl
theorem tb84 : tbytes Try.prog 84 = some 8 := by kernel_rfl
theorem tg84 : tag Try.prog 84 = some false := by kernel_rfl
theorem u84 : Try.prog.underlying 84 = some (.pointer 5) := by kernel_rfl
theorem tz84 : tzero Try.prog 84 = some (.pointer none) := by kernel_rfl
theorem bd26_  : abuild Try.prog 26 [] = some (.agg #[(.bool false), (.bool false), (.bool false), (.bool false)]) := by kernel_rfl
theorem bs22_2_0_1 (H : Hp) (x0_0 : Int) (x0_1 : Int) (x0_2 : Int) (x0_3 : Int) (x0_4 : Int) (x1_0 : Int) (x1_1 : Int) (x1_2 : Int) (x1_3 : Int) (x1_4 : Int) : abuildSlice Try.prog H 22 2 [(0, .agg #[.int .i64 x0_0, .int .i64 x0_1, .int .i64 x0_2, .int .i64 x0_3, .int .i64 x0_4]), (1, .agg #[.int .i64 x1_0, .int .i64 x1_1, .int .i64 x1_2, .int .i64 x1_3, .int .i64 x1_4])] = some (.slice (some ⟨H.next, 0, none⟩) 2 2, H.new (.row [.int .i64 x0_0, .int .i64 x0_1, .int .i64 x0_2, .int .i64 x0_3, .int .i64 x0_4, .int .i64 x1_0, .int .i64 x1_1, .int .i64 x1_2, .int .i64 x1_3, .int .i64 x1_4] true 5)) := by kernel_rfl
theorem bs22_0_ (H : Hp)  : abuildSlice Try.prog H 22 0 [] = some (.slice (some ⟨H.next, 0, none⟩) 0 0, H.new (.row [] true 5)) := by kernel_rfl
theorem bs22_1_0 (H : Hp) (x0_0 : Int) (x0_1 : Int) (x0_2 : Int) (x0_3 : Int) (x0_4 : Int) : abuildSlice Try.prog H 22 1 [(0, .agg #[.int .i64 x0_0, .int .i64 x0_1, .int .i64 x0_2, .int .i64 x0_3, .int .i64 x0_4])] = some (.slice (some ⟨H.next, 0, none⟩) 1 1, H.new (.row [.int .i64 x0_0, .int .i64 x0_1, .int .i64 x0_2, .int .i64 x0_3, .int .i64 x0_4] true 5)) := by kernel_rfl
theorem bs30_1_0 (H : Hp) (x0_0 : Int) (x0_1 : Int) : abuildSlice Try.prog H 30 1 [(0, .agg #[.int .i64 x0_0, .int .i64 x0_1])] = some (.slice (some ⟨H.next, 0, none⟩) 1 1, H.new (.row [.int .i64 x0_0, .int .i64 x0_1] true 2)) := by kernel_rfl
theorem bd36_1_2_3_4 (x0 : Int) (x1 : Int) (x2 : Int) (x3 : Int) : abuild Try.prog 36 [(1, .int .i64 x0), (2, .int .i64 x1), (3, .int .i64 x2), (4, .int .i64 x3)] = some (.agg #[(.int .i64 0), .int .i64 x0, .int .i64 x1, .int .i64 x2, .int .i64 x3]) := by kernel_rfl
theorem bd26_0_1 (x0 : Bool) (x1 : Bool) : abuild Try.prog 26 [(0, .bool x0), (1, .bool x1)] = some (.agg #[.bool x0, .bool x1, (.bool false), (.bool false)]) := by kernel_rfl
theorem bd26_0_1_2 (x0 : Bool) (x1 : Bool) (x2 : Bool) : abuild Try.prog 26 [(0, .bool x0), (1, .bool x1), (2, .bool x2)] = some (.agg #[.bool x0, .bool x1, .bool x2, (.bool false)]) := by kernel_rfl
theorem bd39_0_1 (x0 : Int) (x1 : Int) : abuild Try.prog 39 [(0, .int .i64 x0), (1, .int .i64 x1)] = some (.agg #[.int .i64 x0, .int .i64 x1]) := by kernel_rfl
theorem bd36_2_3 (x0 : Int) (x1 : Int) : abuild Try.prog 36 [(2, .int .i64 x0), (3, .int .i64 x1)] = some (.agg #[(.int .i64 0), (.int .i64 0), .int .i64 x0, .int .i64 x1, (.int .i64 0)]) := by kernel_rfl
theorem bs45_1_0 (H : Hp) (x0 : Int) : abuildSlice Try.prog H 45 1 [(0, .int .i64 x0)] = some (.slice (some ⟨H.next, 0, none⟩) 1 1, H.new (.row [.int .i64 x0] true 1)) := by kernel_rfl
theorem bs45_2_0_1 (H : Hp) (x0 : Int) (x1 : Int) : abuildSlice Try.prog H 45 2 [(0, .int .i64 x0), (1, .int .i64 x1)] = some (.slice (some ⟨H.next, 0, none⟩) 2 2, H.new (.row [.int .i64 x0, .int .i64 x1] true 1)) := by kernel_rfl
theorem bs45_3_0_1_2 (H : Hp) (x0 : Int) (x1 : Int) (x2 : Int) : abuildSlice Try.prog H 45 3 [(0, .int .i64 x0), (1, .int .i64 x1), (2, .int .i64 x2)] = some (.slice (some ⟨H.next, 0, none⟩) 3 3, H.new (.row [.int .i64 x0, .int .i64 x1, .int .i64 x2] true 1)) := by kernel_rfl
attribute [go_sem] ts2 tb2 tg2 u2 tz2 ts3 tb3 tg3 u3 tz3 ts4 tb4
attribute [go_sem] tg4 u4 tz4 ts5 tb5 tg5 u5 tz5 ts9 tb9 tg9 u9
attribute [go_sem] tz9 ts12 tb12 tg12 u12 tz12 ts13 tb13 tg13 u13 tz13 tf13_0
attribute [go_sem] tf13_1 tp13 ts15 tb15 tg15 u15 tz15 ts16 tb16 tg16 u16 tz16
attribute [go_sem] ts17 tb17 tg17 u17 tz17 ts18 tb18 tg18 u18 tz18 tf18_0 tp18
attribute [go_sem] ts21 tb21 tg21 u21 tz21 ts22 tb22 tg22 u22 tz22 ts25 tb25
attribute [go_sem] tg25 u25 tz25 eq25 ne25 ts26 tb26 tg26 u26 tz26 eq26 ne26
attribute [go_sem] ts27 tb27 tg27 u27 tz27 ts30 tb30 tg30 u30 tz30 ts35 tb35
attribute [go_sem] tg35 u35 tz35 tf35_0 tf35_1 tf35_2 tf35_3 tf35_4 tp35 eq35 ne35 ts36
attribute [go_sem] tb36 tg36 u36 tz36 tf36_0 tf36_1 tf36_2 tf36_3 tf36_4 tp36 eq36 ne36
attribute [go_sem] ts38 tb38 tg38 u38 tz38 tf38_0 tf38_1 tp38 eq38 ne38 ts39 tb39
attribute [go_sem] tg39 u39 tz39 tf39_0 tf39_1 tp39 eq39 ne39 ts45 tb45 tg45 u45
attribute [go_sem] tz45 ts51 tb51 tg51 u51 tz51 ts53 tb53 tg53 u53 tz53 ts62
attribute [go_sem] tb62 tg62 u62 tz62 ts64 tb64 tg64 u64 tz64 ts65 tb65 tg65
attribute [go_sem] u65 tz65 ts69 tb69 tg69 u69 tz69 ts71 tb71 tg71 u71 tz71
attribute [go_sem] ts77 tb77 tg77 u77 tz77 ts84 tb84 tg84 u84 tz84 bd26_ bs22_2_0_1
attribute [go_sem] bs22_0_ bs22_1_0 bs30_1_0 bd36_1_2_3_4 bd26_0_1 bd26_0_1_2 bd39_0_1 bd36_2_3 bs45_1_0 bs45_2_0_1 bs45_3_0_1_2
end Go.Proofs.Ytalijeodmmlfjaa
