/- Closed facts on the types of the program. -/
import Derived.Test.YtjdmndklnfhmjaaAbsP
import Derived.Test.YtjdmndklnfhmjaaProg
import Derived.KernelRfl
set_option linter.unusedVariables false
set_option linter.unusedSimpArgs false
set_option linter.unusedSectionVars false
namespace Go.Proofs.Ytjdmndklnfhmjaa
open Go.Abs
theorem ts2 : tsz Try.prog 2 = some 1 := by kernel_rfl
theorem tb2 : tbytes Try.prog 2 = some 8 := by kernel_rfl
theorem tg2 : tag Try.prog 2 = some false := by kernel_rfl
theorem u2 : Try.prog.underlying 2 = some (.int .i64) := by kernel_rfl
theorem tz2 : tzero Try.prog 2 = some (.int .i64 0) := by kernel_rfl
theorem ts3 : tsz Try.prog 3 = some 1 := by kernel_rfl
theorem tb3 : tbytes Try.prog 3 = some 8 := by kernel_rfl
theorem tg3 : tag Try.prog 3 = some false := by kernel_rfl
theorem u3 : Try.prog.underlying 3 = some (.int .i64) := by kernel_rfl
theorem tz3 : tzero Try.prog 3 = some (.int .i64 0) := by kernel_rfl
theorem ts4 : tsz Try.prog 4 = some 1 := by kernel_rfl
theorem tb4 : tbytes Try.prog 4 = some 1 := by kernel_rfl
theorem tg4 : tag Try.prog 4 = some false := by kernel_rfl
theorem u4 : Try.prog.underlying 4 = some .bool := by kernel_rfl
theorem tz4 : tzero Try.prog 4 = some (.bool false) := by kernel_rfl
theorem ts5 : tsz Try.prog 5 = some 1 := by kernel_rfl
theorem tb5 : tbytes Try.prog 5 = some 1 := by kernel_rfl
theorem tg5 : tag Try.prog 5 = some false := by kernel_rfl
theorem u5 : Try.prog.underlying 5 = some (.int .u8) := by kernel_rfl
theorem tz5 : tzero Try.prog 5 = some (.int .u8 0) := by kernel_rfl
theorem ts9 : tsz Try.prog 9 = some 1 := by kernel_rfl
theorem tb9 : tbytes Try.prog 9 = some 16 := by kernel_rfl
theorem tg9 : tag Try.prog 9 = some false := by kernel_rfl
theorem u9 : Try.prog.underlying 9 = some .string := by kernel_rfl
theorem tz9 : tzero Try.prog 9 = some (.string ByteArray.empty) := by kernel_rfl
theorem ts12 : tsz Try.prog 12 = some 1 := by kernel_rfl
theorem tb12 : tbytes Try.prog 12 = some 8 := by kernel_rfl
theorem tg12 : tag Try.prog 12 = some false := by kernel_rfl
theorem u12 : Try.prog.underlying 12 = some (.int .u64) := by kernel_rfl
theorem tz12 : tzero Try.prog 12 = some (.int .u64 0) := by kernel_rfl
theorem ts13 : tsz Try.prog 13 = some 2 := by kernel_rfl
theorem tb13 : tbytes Try.prog 13 = some 24 := by kernel_rfl
theorem tg13 : tag Try.prog 13 = some true := by kernel_rfl
theorem u13 : Try.prog.underlying 13 = some (.struct (Try.prog.fieldsOf 13)) := by kernel_rfl
theorem tz13 : tzero Try.prog 13 = some (.agg #[(.string ByteArray.empty), (.int .u64 0)]) := by kernel_rfl
theorem tf13_0 : tfield Try.prog 13 0 = some (0, 9) := by kernel_rfl
theorem tf13_1 : tfield Try.prog 13 1 = some (1, 12) := by kernel_rfl
theorem tp13 : tplaces Try.prog 13 = some [(0, 1), (1, 1)] := by kernel_rfl
theorem ts15 : tsz Try.prog 15 = some 1 := by kernel_rfl
theorem tb15 : tbytes Try.prog 15 = some 8 := by kernel_rfl
theorem tg15 : tag Try.prog 15 = some false := by kernel_rfl
theorem u15 : Try.prog.underlying 15 = some (.pointer 107) := by kernel_rfl
theorem tz15 : tzero Try.prog 15 = some (.pointer none) := by kernel_rfl
theorem ts16 : tsz Try.prog 16 = some 1 := by kernel_rfl
theorem tb16 : tbytes Try.prog 16 = some 8 := by kernel_rfl
theorem tg16 : tag Try.prog 16 = some false := by kernel_rfl
theorem u16 : Try.prog.underlying 16 = some (.pointer 110) := by kernel_rfl
theorem tz16 : tzero Try.prog 16 = some (.pointer none) := by kernel_rfl
theorem ts17 : tsz Try.prog 17 = some 1 := by kernel_rfl
theorem tb17 : tbytes Try.prog 17 = some 8 := by kernel_rfl
theorem tg17 : tag Try.prog 17 = some false := by kernel_rfl
theorem u17 : Try.prog.underlying 17 = some (.pointer 119) := by kernel_rfl
theorem tz17 : tzero Try.prog 17 = some (.pointer none) := by kernel_rfl
theorem ts18 : tsz Try.prog 18 = some 1 := by kernel_rfl
theorem tb18 : tbytes Try.prog 18 = some 8 := by kernel_rfl
theorem tg18 : tag Try.prog 18 = some true := by kernel_rfl
theorem u18 : Try.prog.underlying 18 = some (.struct (Try.prog.fieldsOf 18)) := by kernel_rfl
theorem tz18 : tzero Try.prog 18 = some (.agg #[(.pointer none)]) := by kernel_rfl
theorem tf18_0 : tfield Try.prog 18 0 = some (0, 17) := by kernel_rfl
theorem tp18 : tplaces Try.prog 18 = some [(0, 1)] := by kernel_rfl
theorem ts21 : tsz Try.prog 21 = some 1 := by kernel_rfl
theorem tb21 : tbytes Try.prog 21 = some 4 := by kernel_rfl
theorem tg21 : tag Try.prog 21 = some false := by kernel_rfl
theorem u21 : Try.prog.underlying 21 = some (.int .i32) := by kernel_rfl
theorem tz21 : tzero Try.prog 21 = some (.int .i32 0) := by kernel_rfl
theorem ts22 : tsz Try.prog 22 = some 4 := by kernel_rfl
theorem tb22 : tbytes Try.prog 22 = some 4 := by kernel_rfl
theorem tg22 : tag Try.prog 22 = some true := by kernel_rfl
theorem u22 : Try.prog.underlying 22 = some (.array 4 4) := by kernel_rfl
theorem tz22 : tzero Try.prog 22 = some (.agg #[(.bool false), (.bool false), (.bool false), (.bool false)]) := by kernel_rfl
theorem eqx22 (a0 b0 : Bool) (a1 b1 : Bool) (a2 b2 : Bool) (a3 b3 : Bool) : abin Try.prog .eql 22 (.agg #[.bool a0, .bool a1, .bool a2, .bool a3]) (.agg #[.bool b0, .bool b1, .bool b2, .bool b3]) = some (.bool ((a0 == b0) && ((a1 == b1) && ((a2 == b2) && ((a3 == b3) && true))))) := by kernel_rfl
theorem eq22 (a0 b0 : Bool) (a1 b1 : Bool) (a2 b2 : Bool) (a3 b3 : Bool) : abin Try.prog .eql 22 (.agg #[.bool a0, .bool a1, .bool a2, .bool a3]) (.agg #[.bool b0, .bool b1, .bool b2, .bool b3]) = some (.bool ((a0 == b0) && ((a1 == b1) && ((a2 == b2) && ((a3 == b3)))))) := by rw [eqx22]; simp only [Bool.and_true]
theorem nex22 (a0 b0 : Bool) (a1 b1 : Bool) (a2 b2 : Bool) (a3 b3 : Bool) : abin Try.prog .neq 22 (.agg #[.bool a0, .bool a1, .bool a2, .bool a3]) (.agg #[.bool b0, .bool b1, .bool b2, .bool b3]) = some (.bool (!((a0 == b0) && ((a1 == b1) && ((a2 == b2) && ((a3 == b3) && true)))))) := by kernel_rfl
theorem ne22 (a0 b0 : Bool) (a1 b1 : Bool) (a2 b2 : Bool) (a3 b3 : Bool) : abin Try.prog .neq 22 (.agg #[.bool a0, .bool a1, .bool a2, .bool a3]) (.agg #[.bool b0, .bool b1, .bool b2, .bool b3]) = some (.bool (!((a0 == b0) && ((a1 == b1) && ((a2 == b2) && ((a3 == b3))))))) := by rw [nex22]; simp only [Bool.and_true]
theorem ts23 : tsz Try.prog 23 = some 4 := by kernel_rfl
theorem tb23 : tbytes Try.prog 23 = some 4 := by kernel_rfl
theorem tg23 : tag Try.prog 23 = some true := by kernel_rfl
theorem u23 : Try.prog.underlying 23 = some (.array 4 4) := by kernel_rfl
theorem tz23 : tzero Try.prog 23 = some (.agg #[(.bool false), (.bool false), (.bool false), (.bool false)]) := by kernel_rfl
theorem eqx23 (a0 b0 : Bool) (a1 b1 : Bool) (a2 b2 : Bool) (a3 b3 : Bool) : abin Try.prog .eql 23 (.agg #[.bool a0, .bool a1, .bool a2, .bool a3]) (.agg #[.bool b0, .bool b1, .bool b2, .bool b3]) = some (.bool ((a0 == b0) && ((a1 == b1) && ((a2 == b2) && ((a3 == b3) && true))))) := by kernel_rfl
theorem eq23 (a0 b0 : Bool) (a1 b1 : Bool) (a2 b2 : Bool) (a3 b3 : Bool) : abin Try.prog .eql 23 (.agg #[.bool a0, .bool a1, .bool a2, .bool a3]) (.agg #[.bool b0, .bool b1, .bool b2, .bool b3]) = some (.bool ((a0 == b0) && ((a1 == b1) && ((a2 == b2) && ((a3 == b3)))))) := by rw [eqx23]; simp only [Bool.and_true]
theorem nex23 (a0 b0 : Bool) (a1 b1 : Bool) (a2 b2 : Bool) (a3 b3 : Bool) : abin Try.prog .neq 23 (.agg #[.bool a0, .bool a1, .bool a2, .bool a3]) (.agg #[.bool b0, .bool b1, .bool b2, .bool b3]) = some (.bool (!((a0 == b0) && ((a1 == b1) && ((a2 == b2) && ((a3 == b3) && true)))))) := by kernel_rfl
theorem ne23 (a0 b0 : Bool) (a1 b1 : Bool) (a2 b2 : Bool) (a3 b3 : Bool) : abin Try.prog .neq 23 (.agg #[.bool a0, .bool a1, .bool a2, .bool a3]) (.agg #[.bool b0, .bool b1, .bool b2, .bool b3]) = some (.bool (!((a0 == b0) && ((a1 == b1) && ((a2 == b2) && ((a3 == b3))))))) := by rw [nex23]; simp only [Bool.and_true]
theorem ts24 : tsz Try.prog 24 = some 4 := by kernel_rfl
theorem tb24 : tbytes Try.prog 24 = some 32 := by kernel_rfl
theorem tg24 : tag Try.prog 24 = some true := by kernel_rfl
theorem u24 : Try.prog.underlying 24 = some (.array 4 3) := by kernel_rfl
theorem tz24 : tzero Try.prog 24 = some (.agg #[(.int .i64 0), (.int .i64 0), (.int .i64 0), (.int .i64 0)]) := by kernel_rfl
theorem eqx24 (a0 b0 : Int) (a1 b1 : Int) (a2 b2 : Int) (a3 b3 : Int) : abin Try.prog .eql 24 (.agg #[.int .i64 a0, .int .i64 a1, .int .i64 a2, .int .i64 a3]) (.agg #[.int .i64 b0, .int .i64 b1, .int .i64 b2, .int .i64 b3]) = some (.bool ((a0 == b0) && ((a1 == b1) && ((a2 == b2) && ((a3 == b3) && true))))) := by kernel_rfl
theorem eq24 (a0 b0 : Int) (a1 b1 : Int) (a2 b2 : Int) (a3 b3 : Int) : abin Try.prog .eql 24 (.agg #[.int .i64 a0, .int .i64 a1, .int .i64 a2, .int .i64 a3]) (.agg #[.int .i64 b0, .int .i64 b1, .int .i64 b2, .int .i64 b3]) = some (.bool ((a0 == b0) && ((a1 == b1) && ((a2 == b2) && ((a3 == b3)))))) := by rw [eqx24]; simp only [Bool.and_true]
theorem nex24 (a0 b0 : Int) (a1 b1 : Int) (a2 b2 : Int) (a3 b3 : Int) : abin Try.prog .neq 24 (.agg #[.int .i64 a0, .int .i64 a1, .int .i64 a2, .int .i64 a3]) (.agg #[.int .i64 b0, .int .i64 b1, .int .i64 b2, .int .i64 b3]) = some (.bool (!((a0 == b0) && ((a1 == b1) && ((a2 == b2) && ((a3 == b3) && true)))))) := by kernel_rfl
theorem ne24 (a0 b0 : Int) (a1 b1 : Int) (a2 b2 : Int) (a3 b3 : Int) : abin Try.prog .neq 24 (.agg #[.int .i64 a0, .int .i64 a1, .int .i64 a2, .int .i64 a3]) (.agg #[.int .i64 b0, .int .i64 b1, .int .i64 b2, .int .i64 b3]) = some (.bool (!((a0 == b0) && ((a1 == b1) && ((a2 == b2) && ((a3 == b3))))))) := by rw [nex24]; simp only [Bool.and_true]
theorem ts25 : tsz Try.prog 25 = some 4 := by kernel_rfl
theorem tb25 : tbytes Try.prog 25 = some 32 := by kernel_rfl
theorem tg25 : tag Try.prog 25 = some true := by kernel_rfl
theorem u25 : Try.prog.underlying 25 = some (.array 4 3) := by kernel_rfl
theorem tz25 : tzero Try.prog 25 = some (.agg #[(.int .i64 0), (.int .i64 0), (.int .i64 0), (.int .i64 0)]) := by kernel_rfl
theorem eqx25 (a0 b0 : Int) (a1 b1 : Int) (a2 b2 : Int) (a3 b3 : Int) : abin Try.prog .eql 25 (.agg #[.int .i64 a0, .int .i64 a1, .int .i64 a2, .int .i64 a3]) (.agg #[.int .i64 b0, .int .i64 b1, .int .i64 b2, .int .i64 b3]) = some (.bool ((a0 == b0) && ((a1 == b1) && ((a2 == b2) && ((a3 == b3) && true))))) := by kernel_rfl
theorem eq25 (a0 b0 : Int) (a1 b1 : Int) (a2 b2 : Int) (a3 b3 : Int) : abin Try.prog .eql 25 (.agg #[.int .i64 a0, .int .i64 a1, .int .i64 a2, .int .i64 a3]) (.agg #[.int .i64 b0, .int .i64 b1, .int .i64 b2, .int .i64 b3]) = some (.bool ((a0 == b0) && ((a1 == b1) && ((a2 == b2) && ((a3 == b3)))))) := by rw [eqx25]; simp only [Bool.and_true]
theorem nex25 (a0 b0 : Int) (a1 b1 : Int) (a2 b2 : Int) (a3 b3 : Int) : abin Try.prog .neq 25 (.agg #[.int .i64 a0, .int .i64 a1, .int .i64 a2, .int .i64 a3]) (.agg #[.int .i64 b0, .int .i64 b1, .int .i64 b2, .int .i64 b3]) = some (.bool (!((a0 == b0) && ((a1 == b1) && ((a2 == b2) && ((a3 == b3) && true)))))) := by kernel_rfl
theorem ne25 (a0 b0 : Int) (a1 b1 : Int) (a2 b2 : Int) (a3 b3 : Int) : abin Try.prog .neq 25 (.agg #[.int .i64 a0, .int .i64 a1, .int .i64 a2, .int .i64 a3]) (.agg #[.int .i64 b0, .int .i64 b1, .int .i64 b2, .int .i64 b3]) = some (.bool (!((a0 == b0) && ((a1 == b1) && ((a2 == b2) && ((a3 == b3))))))) := by rw [nex25]; simp only [Bool.and_true]
theorem ts27 : tsz Try.prog 27 = some 1 := by kernel_rfl
theorem tb27 : tbytes Try.prog 27 = some 24 := by kernel_rfl
theorem tg27 : tag Try.prog 27 = some false := by kernel_rfl
theorem u27 : Try.prog.underlying 27 = some (.slice 32) := by kernel_rfl
theorem tz27 : tzero Try.prog 27 = some (.slice none 0 0) := by kernel_rfl
theorem ts28 : tsz Try.prog 28 = some 1 := by kernel_rfl
theorem tb28 : tbytes Try.prog 28 = some 8 := by kernel_rfl
theorem tg28 : tag Try.prog 28 = some false := by kernel_rfl
theorem u28 : Try.prog.underlying 28 = some (.int .i64) := by kernel_rfl
theorem tz28 : tzero Try.prog 28 = some (.int .i64 0) := by kernel_rfl
theorem ts31 : tsz Try.prog 31 = some 5 := by kernel_rfl
theorem tb31 : tbytes Try.prog 31 = some 40 := by kernel_rfl
theorem tg31 : tag Try.prog 31 = some true := by kernel_rfl
theorem u31 : Try.prog.underlying 31 = some (.struct (Try.prog.fieldsOf 31)) := by kernel_rfl
theorem tz31 : tzero Try.prog 31 = some (.agg #[(.int .i64 0), (.int .i64 0), (.int .i64 0), (.int .i64 0), (.int .i64 0)]) := by kernel_rfl
theorem tf31_0 : tfield Try.prog 31 0 = some (0, 3) := by kernel_rfl
theorem tf31_1 : tfield Try.prog 31 1 = some (1, 3) := by kernel_rfl
theorem tf31_2 : tfield Try.prog 31 2 = some (2, 3) := by kernel_rfl
theorem tf31_3 : tfield Try.prog 31 3 = some (3, 3) := by kernel_rfl
theorem tf31_4 : tfield Try.prog 31 4 = some (4, 3) := by kernel_rfl
theorem tp31 : tplaces Try.prog 31 = some [(0, 1), (1, 1), (2, 1), (3, 1), (4, 1)] := by kernel_rfl
theorem eqx31 (a0 b0 : Int) (a1 b1 : Int) (a2 b2 : Int) (a3 b3 : Int) (a4 b4 : Int) : abin Try.prog .eql 31 (.agg #[.int .i64 a0, .int .i64 a1, .int .i64 a2, .int .i64 a3, .int .i64 a4]) (.agg #[.int .i64 b0, .int .i64 b1, .int .i64 b2, .int .i64 b3, .int .i64 b4]) = some (.bool ((a0 == b0) && ((a1 == b1) && ((a2 == b2) && ((a3 == b3) && ((a4 == b4) && true)))))) := by kernel_rfl
theorem eq31 (a0 b0 : Int) (a1 b1 : Int) (a2 b2 : Int) (a3 b3 : Int) (a4 b4 : Int) : abin Try.prog .eql 31 (.agg #[.int .i64 a0, .int .i64 a1, .int .i64 a2, .int .i64 a3, .int .i64 a4]) (.agg #[.int .i64 b0, .int .i64 b1, .int .i64 b2, .int .i64 b3, .int .i64 b4]) = some (.bool ((a0 == b0) && ((a1 == b1) && ((a2 == b2) && ((a3 == b3) && ((a4 == b4))))))) := by rw [eqx31]; simp only [Bool.and_true]
theorem nex31 (a0 b0 : Int) (a1 b1 : Int) (a2 b2 : Int) (a3 b3 : Int) (a4 b4 : Int) : abin Try.prog .neq 31 (.agg #[.int .i64 a0, .int .i64 a1, .int .i64 a2, .int .i64 a3, .int .i64 a4]) (.agg #[.int .i64 b0, .int .i64 b1, .int .i64 b2, .int .i64 b3, .int .i64 b4]) = some (.bool (!((a0 == b0) && ((a1 == b1) && ((a2 == b2) && ((a3 == b3) && ((a4 == b4) && true))))))) := by kernel_rfl
theorem ne31 (a0 b0 : Int) (a1 b1 : Int) (a2 b2 : Int) (a3 b3 : Int) (a4 b4 : Int) : abin Try.prog .neq 31 (.agg #[.int .i64 a0, .int .i64 a1, .int .i64 a2, .int .i64 a3, .int .i64 a4]) (.agg #[.int .i64 b0, .int .i64 b1, .int .i64 b2, .int .i64 b3, .int .i64 b4]) = some (.bool (!((a0 == b0) && ((a1 == b1) && ((a2 == b2) && ((a3 == b3) && ((a4 == b4)))))))) := by rw [nex31]; simp only [Bool.and_true]
theorem ts32 : tsz Try.prog 32 = some 5 := by kernel_rfl
theorem tb32 : tbytes Try.prog 32 = some 40 := by kernel_rfl
theorem tg32 : tag Try.prog 32 = some true := by kernel_rfl
theorem u32 : Try.prog.underlying 32 = some (.struct (Try.prog.fieldsOf 32)) := by kernel_rfl
theorem tz32 : tzero Try.prog 32 = some (.agg #[(.int .i64 0), (.int .i64 0), (.int .i64 0), (.int .i64 0), (.int .i64 0)]) := by kernel_rfl
theorem tf32_0 : tfield Try.prog 32 0 = some (0, 3) := by kernel_rfl
theorem tf32_1 : tfield Try.prog 32 1 = some (1, 3) := by kernel_rfl
theorem tf32_2 : tfield Try.prog 32 2 = some (2, 3) := by kernel_rfl
theorem tf32_3 : tfield Try.prog 32 3 = some (3, 3) := by kernel_rfl
theorem tf32_4 : tfield Try.prog 32 4 = some (4, 3) := by kernel_rfl
theorem tp32 : tplaces Try.prog 32 = some [(0, 1), (1, 1), (2, 1), (3, 1), (4, 1)] := by kernel_rfl
theorem eqx32 (a0 b0 : Int) (a1 b1 : Int) (a2 b2 : Int) (a3 b3 : Int) (a4 b4 : Int) : abin Try.prog .eql 32 (.agg #[.int .i64 a0, .int .i64 a1, .int .i64 a2, .int .i64 a3, .int .i64 a4]) (.agg #[.int .i64 b0, .int .i64 b1, .int .i64 b2, .int .i64 b3, .int .i64 b4]) = some (.bool ((a0 == b0) && ((a1 == b1) && ((a2 == b2) && ((a3 == b3) && ((a4 == b4) && true)))))) := by kernel_rfl
theorem eq32 (a0 b0 : Int) (a1 b1 : Int) (a2 b2 : Int) (a3 b3 : Int) (a4 b4 : Int) : abin Try.prog .eql 32 (.agg #[.int .i64 a0, .int .i64 a1, .int .i64 a2, .int .i64 a3, .int .i64 a4]) (.agg #[.int .i64 b0, .int .i64 b1, .int .i64 b2, .int .i64 b3, .int .i64 b4]) = some (.bool ((a0 == b0) && ((a1 == b1) && ((a2 == b2) && ((a3 == b3) && ((a4 == b4))))))) := by rw [eqx32]; simp only [Bool.and_true]
theorem nex32 (a0 b0 : Int) (a1 b1 : Int) (a2 b2 : Int) (a3 b3 : Int) (a4 b4 : Int) : abin Try.prog .neq 32 (.agg #[.int .i64 a0, .int .i64 a1, .int .i64 a2, .int .i64 a3, .int .i64 a4]) (.agg #[.int .i64 b0, .int .i64 b1, .int .i64 b2, .int .i64 b3, .int .i64 b4]) = some (.bool (!((a0 == b0) && ((a1 == b1) && ((a2 == b2) && ((a3 == b3) && ((a4 == b4) && true))))))) := by kernel_rfl
theorem ne32 (a0 b0 : Int) (a1 b1 : Int) (a2 b2 : Int) (a3 b3 : Int) (a4 b4 : Int) : abin Try.prog .neq 32 (.agg #[.int .i64 a0, .int .i64 a1, .int .i64 a2, .int .i64 a3, .int .i64 a4]) (.agg #[.int .i64 b0, .int .i64 b1, .int .i64 b2, .int .i64 b3, .int .i64 b4]) = some (.bool (!((a0 == b0) && ((a1 == b1) && ((a2 == b2) && ((a3 == b3) && ((a4 == b4)))))))) := by rw [nex32]; simp only [Bool.and_true]
theorem ts33 : tsz Try.prog 33 = some 1 := by kernel_rfl
theorem tb33 : tbytes Try.prog 33 = some 24 := by kernel_rfl
theorem tg33 : tag Try.prog 33 = some false := by kernel_rfl
theorem u33 : Try.prog.underlying 33 = some (.slice 37) := by kernel_rfl
theorem tz33 : tzero Try.prog 33 = some (.slice none 0 0) := by kernel_rfl
theorem ts36 : tsz Try.prog 36 = some 4 := by kernel_rfl
theorem tb36 : tbytes Try.prog 36 = some 32 := by kernel_rfl
theorem tg36 : tag Try.prog 36 = some true := by kernel_rfl
theorem u36 : Try.prog.underlying 36 = some (.struct (Try.prog.fieldsOf 36)) := by kernel_rfl
theorem tz36 : tzero Try.prog 36 = some (.agg #[(.int .i64 0), (.int .i64 0), (.int .i64 0), (.int .i64 0)]) := by kernel_rfl
theorem tf36_0 : tfield Try.prog 36 0 = some (0, 3) := by kernel_rfl
theorem tf36_1 : tfield Try.prog 36 1 = some (1, 3) := by kernel_rfl
theorem tf36_2 : tfield Try.prog 36 2 = some (2, 3) := by kernel_rfl
theorem tf36_3 : tfield Try.prog 36 3 = some (3, 3) := by kernel_rfl
theorem tp36 : tplaces Try.prog 36 = some [(0, 1), (1, 1), (2, 1), (3, 1)] := by kernel_rfl
theorem eqx36 (a0 b0 : Int) (a1 b1 : Int) (a2 b2 : Int) (a3 b3 : Int) : abin Try.prog .eql 36 (.agg #[.int .i64 a0, .int .i64 a1, .int .i64 a2, .int .i64 a3]) (.agg #[.int .i64 b0, .int .i64 b1, .int .i64 b2, .int .i64 b3]) = some (.bool ((a0 == b0) && ((a1 == b1) && ((a2 == b2) && ((a3 == b3) && true))))) := by kernel_rfl
theorem eq36 (a0 b0 : Int) (a1 b1 : Int) (a2 b2 : Int) (a3 b3 : Int) : abin Try.prog .eql 36 (.agg #[.int .i64 a0, .int .i64 a1, .int .i64 a2, .int .i64 a3]) (.agg #[.int .i64 b0, .int .i64 b1, .int .i64 b2, .int .i64 b3]) = some (.bool ((a0 == b0) && ((a1 == b1) && ((a2 == b2) && ((a3 == b3)))))) := by rw [eqx36]; simp only [Bool.and_true]
theorem nex36 (a0 b0 : Int) (a1 b1 : Int) (a2 b2 : Int) (a3 b3 : Int) : abin Try.prog .neq 36 (.agg #[.int .i64 a0, .int .i64 a1, .int .i64 a2, .int .i64 a3]) (.agg #[.int .i64 b0, .int .i64 b1, .int .i64 b2, .int .i64 b3]) = some (.bool (!((a0 == b0) && ((a1 == b1) && ((a2 == b2) && ((a3 == b3) && true)))))) := by kernel_rfl
theorem ne36 (a0 b0 : Int) (a1 b1 : Int) (a2 b2 : Int) (a3 b3 : Int) : abin Try.prog .neq 36 (.agg #[.int .i64 a0, .int .i64 a1, .int .i64 a2, .int .i64 a3]) (.agg #[.int .i64 b0, .int .i64 b1, .int .i64 b2, .int .i64 b3]) = some (.bool (!((a0 == b0) && ((a1 == b1) && ((a2 == b2) && ((a3 == b3))))))) := by rw [nex36]; simp only [Bool.and_true]
theorem ts37 : tsz Try.prog 37 = some 4 := by kernel_rfl
theorem tb37 : tbytes Try.prog 37 = some 32 := by kernel_rfl
theorem tg37 : tag Try.prog 37 = some true := by kernel_rfl
theorem u37 : Try.prog.underlying 37 = some (.struct (Try.prog.fieldsOf 37)) := by kernel_rfl
theorem tz37 : tzero Try.prog 37 = some (.agg #[(.int .i64 0), (.int .i64 0), (.int .i64 0), (.int .i64 0)]) := by kernel_rfl
theorem tf37_0 : tfield Try.prog 37 0 = some (0, 3) := by kernel_rfl
theorem tf37_1 : tfield Try.prog 37 1 = some (1, 3) := by kernel_rfl
theorem tf37_2 : tfield Try.prog 37 2 = some (2, 3) := by kernel_rfl
theorem tf37_3 : tfield Try.prog 37 3 = some (3, 3) := by kernel_rfl
theorem tp37 : tplaces Try.prog 37 = some [(0, 1), (1, 1), (2, 1), (3, 1)] := by kernel_rfl
theorem eqx37 (a0 b0 : Int) (a1 b1 : Int) (a2 b2 : Int) (a3 b3 : Int) : abin Try.prog .eql 37 (.agg #[.int .i64 a0, .int .i64 a1, .int .i64 a2, .int .i64 a3]) (.agg #[.int .i64 b0, .int .i64 b1, .int .i64 b2, .int .i64 b3]) = some (.bool ((a0 == b0) && ((a1 == b1) && ((a2 == b2) && ((a3 == b3) && true))))) := by kernel_rfl
theorem eq37 (a0 b0 : Int) (a1 b1 : Int) (a2 b2 : Int) (a3 b3 : Int) : abin Try.prog .eql 37 (.agg #[.int .i64 a0, .int .i64 a1, .int .i64 a2, .int .i64 a3]) (.agg #[.int .i64 b0, .int .i64 b1, .int .i64 b2, .int .i64 b3]) = some (.bool ((a0 == b0) && ((a1 == b1) && ((a2 == b2) && ((a3 == b3)))))) := by rw [eqx37]; simp only [Bool.and_true]
theorem nex37 (a0 b0 : Int) (a1 b1 : Int) (a2 b2 : Int) (a3 b3 : Int) : abin Try.prog .neq 37 (.agg #[.int .i64 a0, .int .i64 a1, .int .i64 a2, .int .i64 a3]) (.agg #[.int .i64 b0, .int .i64 b1, .int .i64 b2, .int .i64 b3]) = some (.bool (!((a0 == b0) && ((a1 == b1) && ((a2 == b2) && ((a3 == b3) && true)))))) := by kernel_rfl
theorem ne37 (a0 b0 : Int) (a1 b1 : Int) (a2 b2 : Int) (a3 b3 : Int) : abin Try.prog .neq 37 (.agg #[.int .i64 a0, .int .i64 a1, .int .i64 a2, .int .i64 a3]) (.agg #[.int .i64 b0, .int .i64 b1, .int .i64 b2, .int .i64 b3]) = some (.bool (!((a0 == b0) && ((a1 == b1) && ((a2 == b2) && ((a3 == b3))))))) := by rw [nex37]; simp only [Bool.and_true]
theorem ts42 : tsz Try.prog 42 = some 1 := by kernel_rfl
theorem tb42 : tbytes Try.prog 42 = some 2 := by kernel_rfl
theorem tg42 : tag Try.prog 42 = some false := by kernel_rfl
theorem u42 : Try.prog.underlying 42 = some (.int .u16) := by kernel_rfl
theorem tz42 : tzero Try.prog 42 = some (.int .u16 0) := by kernel_rfl
theorem ts53 : tsz Try.prog 53 = some 1 := by kernel_rfl
theorem tb53 : tbytes Try.prog 53 = some 8 := by kernel_rfl
theorem tg53 : tag Try.prog 53 = some false := by kernel_rfl
theorem u53 : Try.prog.underlying 53 = some (.map 55 3) := by kernel_rfl
theorem ts54 : tsz Try.prog 54 = some 3 := by kernel_rfl
theorem tb54 : tbytes Try.prog 54 = some 24 := by kernel_rfl
theorem tg54 : tag Try.prog 54 = some true := by kernel_rfl
theorem u54 : Try.prog.underlying 54 = some (.struct (Try.prog.fieldsOf 54)) := by kernel_rfl
theorem tz54 : tzero Try.prog 54 = some (.agg #[(.int .i64 0), (.int .i64 0), (.int .i64 0)]) := by kernel_rfl
theorem tf54_0 : tfield Try.prog 54 0 = some (0, 3) := by kernel_rfl
theorem tf54_1 : tfield Try.prog 54 1 = some (1, 3) := by kernel_rfl
theorem tf54_2 : tfield Try.prog 54 2 = some (2, 3) := by kernel_rfl
theorem tp54 : tplaces Try.prog 54 = some [(0, 1), (1, 1), (2, 1)] := by kernel_rfl
theorem eqx54 (a0 b0 : Int) (a1 b1 : Int) (a2 b2 : Int) : abin Try.prog .eql 54 (.agg #[.int .i64 a0, .int .i64 a1, .int .i64 a2]) (.agg #[.int .i64 b0, .int .i64 b1, .int .i64 b2]) = some (.bool ((a0 == b0) && ((a1 == b1) && ((a2 == b2) && true)))) := by kernel_rfl
theorem eq54 (a0 b0 : Int) (a1 b1 : Int) (a2 b2 : Int) : abin Try.prog .eql 54 (.agg #[.int .i64 a0, .int .i64 a1, .int .i64 a2]) (.agg #[.int .i64 b0, .int .i64 b1, .int .i64 b2]) = some (.bool ((a0 == b0) && ((a1 == b1) && ((a2 == b2))))) := by rw [eqx54]; simp only [Bool.and_true]
theorem nex54 (a0 b0 : Int) (a1 b1 : Int) (a2 b2 : Int) : abin Try.prog .neq 54 (.agg #[.int .i64 a0, .int .i64 a1, .int .i64 a2]) (.agg #[.int .i64 b0, .int .i64 b1, .int .i64 b2]) = some (.bool (!((a0 == b0) && ((a1 == b1) && ((a2 == b2) && true))))) := by kernel_rfl
theorem ne54 (a0 b0 : Int) (a1 b1 : Int) (a2 b2 : Int) : abin Try.prog .neq 54 (.agg #[.int .i64 a0, .int .i64 a1, .int .i64 a2]) (.agg #[.int .i64 b0, .int .i64 b1, .int .i64 b2]) = some (.bool (!((a0 == b0) && ((a1 == b1) && ((a2 == b2)))))) := by rw [nex54]; simp only [Bool.and_true]
theorem ts55 : tsz Try.prog 55 = some 3 := by kernel_rfl
theorem tb55 : tbytes Try.prog 55 = some 24 := by kernel_rfl
theorem tg55 : tag Try.prog 55 = some true := by kernel_rfl
theorem u55 : Try.prog.underlying 55 = some (.struct (Try.prog.fieldsOf 55)) := by kernel_rfl
theorem tz55 : tzero Try.prog 55 = some (.agg #[(.int .i64 0), (.int .i64 0), (.int .i64 0)]) := by kernel_rfl
theorem tf55_0 : tfield Try.prog 55 0 = some (0, 3) := by kernel_rfl
theorem tf55_1 : tfield Try.prog 55 1 = some (1, 3) := by kernel_rfl
theorem tf55_2 : tfield Try.prog 55 2 = some (2, 3) := by kernel_rfl
theorem tp55 : tplaces Try.prog 55 = some [(0, 1), (1, 1), (2, 1)] := by kernel_rfl
theorem eqx55 (a0 b0 : Int) (a1 b1 : Int) (a2 b2 : Int) : abin Try.prog .eql 55 (.agg #[.int .i64 a0, .int .i64 a1, .int .i64 a2]) (.agg #[.int .i64 b0, .int .i64 b1, .int .i64 b2]) = some (.bool ((a0 == b0) && ((a1 == b1) && ((a2 == b2) && true)))) := by kernel_rfl
theorem eq55 (a0 b0 : Int) (a1 b1 : Int) (a2 b2 : Int) : abin Try.prog .eql 55 (.agg #[.int .i64 a0, .int .i64 a1, .int .i64 a2]) (.agg #[.int .i64 b0, .int .i64 b1, .int .i64 b2]) = some (.bool ((a0 == b0) && ((a1 == b1) && ((a2 == b2))))) := by rw [eqx55]; simp only [Bool.and_true]
theorem nex55 (a0 b0 : Int) (a1 b1 : Int) (a2 b2 : Int) : abin Try.prog .neq 55 (.agg #[.int .i64 a0, .int .i64 a1, .int .i64 a2]) (.agg #[.int .i64 b0, .int .i64 b1, .int .i64 b2]) = some (.bool (!((a0 == b0) && ((a1 == b1) && ((a2 == b2) && true))))) := by kernel_rfl
theorem ne55 (a0 b0 : Int) (a1 b1 : Int) (a2 b2 : Int) : abin Try.prog .neq 55 (.agg #[.int .i64 a0, .int .i64 a1, .int .i64 a2]) (.agg #[.int .i64 b0, .int .i64 b1, .int .i64 b2]) = some (.bool (!((a0 == b0) && ((a1 == b1) && ((a2 == b2)))))) := by rw [nex55]; simp only [Bool.and_true]
theorem ts57 : tsz Try.prog 57 = some 1 := by kernel_rfl
theorem tb57 : tbytes Try.prog 57 = some 24 := by kernel_rfl
theorem tg57 : tag Try.prog 57 = some false := by kernel_rfl
theorem u57 : Try.prog.underlying 57 = some (.slice 55) := by kernel_rfl
theorem tz57 : tzero Try.prog 57 = some (.slice none 0 0) := by kernel_rfl
theorem ts78 : tsz Try.prog 78 = some 1 := by kernel_rfl
theorem tb78 : tbytes Try.prog 78 = some 8 := by kernel_rfl
theorem tg78 : tag Try.prog 78 = some false := by kernel_rfl
theorem u78 : Try.prog.underlying 78 = some (.int .u64) := by kernel_rfl
theorem tz78 : tzero Try.prog 78 = some (.int .u64 0) := by kernel_rfl
theorem ts83 : tsz Try.prog 83 = some 1 := by kernel_rfl
theorem tb83 : tbytes Try.prog 83 = some 24 := by kernel_rfl
theorem tg83 : tag Try.prog 83 = some false := by kernel_rfl
theorem u83 : Try.prog.underlying 83 = some (.slice 3) := by kernel_rfl
theorem tz83 : tzero Try.prog 83 = some (.slice none 0 0) := by kernel_rfl
theorem ts85 : tsz Try.prog 85 = some 1 := by kernel_rfl
theorem tb85 : tbytes Try.prog 85 = some 8 := by kernel_rfl
theorem tg85 : tag Try.prog 85 = some false := by kernel_rfl
theorem u85 : Try.prog.underlying 85 = some (.int .i64) := by kernel_rfl
theorem tz85 : tzero Try.prog 85 = some (.int .i64 0) := by kernel_rfl
theorem ts92 : tsz Try.prog 92 = some 1 := by kernel_rfl
theorem tb92 : tbytes Try.prog 92 = some 4 := by kernel_rfl
theorem tg92 : tag Try.prog 92 = some false := by kernel_rfl
theorem u92 : Try.prog.underlying 92 = some (.int .u32) := by kernel_rfl
theorem tz92 : tzero Try.prog 92 = some (.int .u32 0) := by kernel_rfl
theorem ts94 : tsz Try.prog 94 = some 1 := by kernel_rfl
theorem tb94 : tbytes Try.prog 94 = some 8 := by kernel_rfl
theorem tg94 : tag Try.prog 94 = some false := by kernel_rfl
theorem u94 : Try.prog.underlying 94 = some (.int .u64) := by kernel_rfl
theorem tz94 : tzero Try.prog 94 = some (.int .u64 0) := by kernel_rfl
theorem ts96 : tsz Try.prog 96 = some 1 := by kernel_rfl
theorem tb96 : tbytes Try.prog 96 = some 8 := by kernel_rfl
theorem tg96 : tag Try.prog 96 = some false := by kernel_rfl
theorem u96 : Try.prog.underlying 96 = some (.int .u64) := by kernel_rfl
theorem tz96 : tzero Try.prog 96 = some (.int .u64 0) := by kernel_rfl
theorem ts100 : tsz Try.prog 100 = some 1 := by kernel_rfl
theorem tb100 : tbytes Try.prog 100 = some 8 := by kernel_rfl
theorem tg100 : tag Try.prog 100 = some false := by kernel_rfl
theorem u100 : Try.prog.underlying 100 = some (.pointer 3) := by kernel_rfl
theorem tz100 : tzero Try.prog 100 = some (.pointer none) := by kernel_rfl
theorem ts102 : tsz Try.prog 102 = some 1 := by kernel_rfl
theorem tb102 : tbytes Try.prog 102 = some 8 := by kernel_rfl
theorem tg102 : tag Try.prog 102 = some false := by kernel_rfl
theorem u102 : Try.prog.underlying 102 = some (.pointer 96) := by kernel_rfl
theorem tz102 : tzero Try.prog 102 = some (.pointer none) := by kernel_rfl
theorem ts108 : tsz Try.prog 108 = some 0 := by kernel_rfl
theorem tb108 : tbytes Try.prog 108 = some 0 := by kernel_rfl
theorem tg108 : tag Try.prog 108 = some true := by kernel_rfl
theorem u108 : Try.prog.underlying 108 = some (.array 0 16) := by kernel_rfl
theorem tz108 : tzero Try.prog 108 = some (.agg #[]) := by kernel_rfl
theorem ts115 : tsz Try.prog 115 = some 1 := by kernel_rfl
theorem tb115 : tbytes Try.prog 115 = some 8 := by kernel_rfl
theorem tg115 : tag Try.prog 115 = some false := by kernel_rfl
theorem u115 : Try.prog.underlying 115 = some (.pointer 5) := by kernel_rfl
theorem tz115 : tzero Try.prog 115 = some (.pointer none) := by kernel_rfl
theorem bs27_1_0 (H : Hp) (x0_0 : Int) (x0_1 : Int) (x0_2 : Int) (x0_3 : Int) (x0_4 : Int) : abuildSlice Try.prog H 27 1 [(0, .agg #[.int .i64 x0_0, .int .i64 x0_1, .int .i64 x0_2, .int .i64 x0_3, .int .i64 x0_4])] = some (.slice (some ⟨H.next, 0, none⟩) 1 1, H.new (.row [.int .i64 x0_0, .int .i64 x0_1, .int .i64 x0_2, .int .i64 x0_3, .int .i64 x0_4] true 5)) := by kernel_rfl
theorem bd32_0_1_2_3_4 (x0 : Int) (x1 : Int) (x2 : Int) (x3 : Int) (x4 : Int) : abuild Try.prog 32 [(0, .int .i64 x0), (1, .int .i64 x1), (2, .int .i64 x2), (3, .int .i64 x3), (4, .int .i64 x4)] = some (.agg #[.int .i64 x0, .int .i64 x1, .int .i64 x2, .int .i64 x3, .int .i64 x4]) := by kernel_rfl
theorem bs33_1_0 (H : Hp) (x0_0 : Int) (x0_1 : Int) (x0_2 : Int) (x0_3 : Int) : abuildSlice Try.prog H 33 1 [(0, .agg #[.int .i64 x0_0, .int .i64 x0_1, .int .i64 x0_2, .int .i64 x0_3])] = some (.slice (some ⟨H.next, 0, none⟩) 1 1, H.new (.row [.int .i64 x0_0, .int .i64 x0_1, .int .i64 x0_2, .int .i64 x0_3] true 4)) := by kernel_rfl
theorem bd37_0_1_2_3 (x0 : Int) (x1 : Int) (x2 : Int) (x3 : Int) : abuild Try.prog 37 [(0, .int .i64 x0), (1, .int .i64 x1), (2, .int .i64 x2), (3, .int .i64 x3)] = some (.agg #[.int .i64 x0, .int .i64 x1, .int .i64 x2, .int .i64 x3]) := by kernel_rfl
theorem bd55_0_1_2 (x0 : Int) (x1 : Int) (x2 : Int) : abuild Try.prog 55 [(0, .int .i64 x0), (1, .int .i64 x1), (2, .int .i64 x2)] = some (.agg #[.int .i64 x0, .int .i64 x1, .int .i64 x2]) := by kernel_rfl
theorem bs83_3_0_1_2 (H : Hp) (x0 : Int) (x1 : Int) (x2 : Int) : abuildSlice Try.prog H 83 3 [(0, .int .i64 x0), (1, .int .i64 x1), (2, .int .i64 x2)] = some (.slice (some ⟨H.next, 0, none⟩) 3 3, H.new (.row [.int .i64 x0, .int .i64 x1, .int .i64 x2] true 1)) := by kernel_rfl
theorem bs33_0_ (H : Hp)  : abuildSlice Try.prog H 33 0 [] = some (.slice (some ⟨H.next, 0, none⟩) 0 0, H.new (.row [] true 4)) := by kernel_rfl
theorem bs57_1_0 (H : Hp) (x0_0 : Int) (x0_1 : Int) (x0_2 : Int) : abuildSlice Try.prog H 57 1 [(0, .agg #[.int .i64 x0_0, .int .i64 x0_1, .int .i64 x0_2])] = some (.slice (some ⟨H.next, 0, none⟩) 1 1, H.new (.row [.int .i64 x0_0, .int .i64 x0_1, .int .i64 x0_2] true 3)) := by kernel_rfl
theorem bs27_0_ (H : Hp)  : abuildSlice Try.prog H 27 0 [] = some (.slice (some ⟨H.next, 0, none⟩) 0 0, H.new (.row [] true 5)) := by kernel_rfl
theorem bs27_2_0_1 (H : Hp) (x0_0 : Int) (x0_1 : Int) (x0_2 : Int) (x0_3 : Int) (x0_4 : Int) (x1_0 : Int) (x1_1 : Int) (x1_2 : Int) (x1_3 : Int) (x1_4 : Int) : abuildSlice Try.prog H 27 2 [(0, .agg #[.int .i64 x0_0, .int .i64 x0_1, .int .i64 x0_2, .int .i64 x0_3, .int .i64 x0_4]), (1, .agg #[.int .i64 x1_0, .int .i64 x1_1, .int .i64 x1_2, .int .i64 x1_3, .int .i64 x1_4])] = some (.slice (some ⟨H.next, 0, none⟩) 2 2, H.new (.row [.int .i64 x0_0, .int .i64 x0_1, .int .i64 x0_2, .int .i64 x0_3, .int .i64 x0_4, .int .i64 x1_0, .int .i64 x1_1, .int .i64 x1_2, .int .i64 x1_3, .int .i64 x1_4] true 5)) := by kernel_rfl
theorem bs33_2_0_1 (H : Hp) (x0_0 : Int) (x0_1 : Int) (x0_2 : Int) (x0_3 : Int) (x1_0 : Int) (x1_1 : Int) (x1_2 : Int) (x1_3 : Int) : abuildSlice Try.prog H 33 2 [(0, .agg #[.int .i64 x0_0, .int .i64 x0_1, .int .i64 x0_2, .int .i64 x0_3]), (1, .agg #[.int .i64 x1_0, .int .i64 x1_1, .int .i64 x1_2, .int .i64 x1_3])] = some (.slice (some ⟨H.next, 0, none⟩) 2 2, H.new (.row [.int .i64 x0_0, .int .i64 x0_1, .int .i64 x0_2, .int .i64 x0_3, .int .i64 x1_0, .int .i64 x1_1, .int .i64 x1_2, .int .i64 x1_3] true 4)) := by kernel_rfl
theorem bd23_0_1_2_3 (x0 : Bool) (x1 : Bool) (x2 : Bool) (x3 : Bool) : abuild Try.prog 23 [(0, .bool x0), (1, .bool x1), (2, .bool x2), (3, .bool x3)] = some (.agg #[.bool x0, .bool x1, .bool x2, .bool x3]) := by kernel_rfl
theorem bd25_0_1_2_3 (x0 : Int) (x1 : Int) (x2 : Int) (x3 : Int) : abuild Try.prog 25 [(0, .int .i64 x0), (1, .int .i64 x1), (2, .int .i64 x2), (3, .int .i64 x3)] = some (.agg #[.int .i64 x0, .int .i64 x1, .int .i64 x2, .int .i64 x3]) := by kernel_rfl
theorem bd32_0_2_3_4 (x0 : Int) (x1 : Int) (x2 : Int) (x3 : Int) : abuild Try.prog 32 [(0, .int .i64 x0), (2, .int .i64 x1), (3, .int .i64 x2), (4, .int .i64 x3)] = some (.agg #[.int .i64 x0, (.int .i64 0), .int .i64 x1, .int .i64 x2, .int .i64 x3]) := by kernel_rfl
theorem bd37_0_2_3 (x0 : Int) (x1 : Int) (x2 : Int) : abuild Try.prog 37 [(0, .int .i64 x0), (2, .int .i64 x1), (3, .int .i64 x2)] = some (.agg #[.int .i64 x0, (.int .i64 0), .int .i64 x1, .int .i64 x2]) := by kernel_rfl
theorem bd23_  : abuild Try.prog 23 [] = some (.agg #[(.bool false), (.bool false), (.bool false), (.bool false)]) := by kernel_rfl
theorem bd25_  : abuild Try.prog 25 [] = some (.agg #[(.int .i64 0), (.int .i64 0), (.int .i64 0), (.int .i64 0)]) := by kernel_rfl
attribute [go_sem] ts2 tb2 tg2 u2 tz2 ts3 tb3 tg3 u3 tz3 ts4 tb4
attribute [go_sem] tg4 u4 tz4 ts5 tb5 tg5 u5 tz5 ts9 tb9 tg9 u9
attribute [go_sem] tz9 ts12 tb12 tg12 u12 tz12 ts13 tb13 tg13 u13 tz13 tf13_0
attribute [go_sem] tf13_1 tp13 ts15 tb15 tg15 u15 tz15 ts16 tb16 tg16 u16 tz16
attribute [go_sem] ts17 tb17 tg17 u17 tz17 ts18 tb18 tg18 u18 tz18 tf18_0 tp18
attribute [go_sem] ts21 tb21 tg21 u21 tz21 ts22 tb22 tg22 u22 tz22 eq22 ne22
attribute [go_sem] ts23 tb23 tg23 u23 tz23 eq23 ne23 ts24 tb24 tg24 u24 tz24
attribute [go_sem] eq24 ne24 ts25 tb25 tg25 u25 tz25 eq25 ne25 ts27 tb27 tg27
attribute [go_sem] u27 tz27 ts28 tb28 tg28 u28 tz28 ts31 tb31 tg31 u31 tz31
attribute [go_sem] tf31_0 tf31_1 tf31_2 tf31_3 tf31_4 tp31 eq31 ne31 ts32 tb32 tg32 u32
attribute [go_sem] tz32 tf32_0 tf32_1 tf32_2 tf32_3 tf32_4 tp32 eq32 ne32 ts33 tb33 tg33
attribute [go_sem] u33 tz33 ts36 tb36 tg36 u36 tz36 tf36_0 tf36_1 tf36_2 tf36_3 tp36
attribute [go_sem] eq36 ne36 ts37 tb37 tg37 u37 tz37 tf37_0 tf37_1 tf37_2 tf37_3 tp37
attribute [go_sem] eq37 ne37 ts42 tb42 tg42 u42 tz42 ts53 tb53 tg53 u53 ts54
attribute [go_sem] tb54 tg54 u54 tz54 tf54_0 tf54_1 tf54_2 tp54 eq54 ne54 ts55 tb55
attribute [go_sem] tg55 u55 tz55 tf55_0 tf55_1 tf55_2 tp55 eq55 ne55 ts57 tb57 tg57
attribute [go_sem] u57 tz57 ts78 tb78 tg78 u78 tz78 ts83 tb83 tg83 u83 tz83
attribute [go_sem] ts85 tb85 tg85 u85 tz85 ts92 tb92 tg92 u92 tz92 ts94 tb94
attribute [go_sem] tg94 u94 tz94 ts96 tb96 tg96 u96 tz96 ts100 tb100 tg100 u100
attribute [go_sem] tz100 ts102 tb102 tg102 u102 tz102 ts108 tb108 tg108 u108 tz108 ts115
attribute [go_sem] tb115 tg115 u115 tz115 bs27_1_0 bd32_0_1_2_3_4 bs33_1_0 bd37_0_1_2_3 bd55_0_1_2 bs83_3_0_1_2 bs33_0_ bs57_1_0
attribute [go_sem] bs27_0_ bs27_2_0_1 bs33_2_0_1 bd23_0_1_2_3 bd25_0_1_2_3 bd32_0_2_3_4 bd37_0_2_3 bd23_ bd25_
end Go.Proofs.Ytjdmndklnfhmjaa
