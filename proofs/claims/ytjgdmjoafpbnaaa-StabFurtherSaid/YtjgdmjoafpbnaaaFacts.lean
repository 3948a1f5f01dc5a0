/- Closed facts on the types of the program. -/
import Derived.Test.YtjgdmjoafpbnaaaAbsP
import Derived.Test.YtjgdmjoafpbnaaaProg
import Derived.KernelRfl
set_option linter.unusedVariables false
set_option linter.unusedSimpArgs false
set_option linter.unusedSectionVars false
namespace Go.Proofs.Ytjgdmjoafpbnaaa
open Go.Abs
theorem ts2 : tsz Try.prog 2 = some 1 := by kernel_rfl
theorem tb2 : tbytes Try.prog 2 = some 8 := by kernel_rfl
theorem tg2 : tag Try.prog 2 = some false := by kernel_rfl
theorem u2 : Try.prog.underlying 2 = some (.int .i64) := by kernel_rfl
theorem tz2 : tzero Try.prog 2 = some (.int .i64 0) := by kernel_rfl
theorem ts3 : tsz Try.prog 3 = some 1 := by kernel_rfl
theorem tb3 : tbytes Try.prog 3 = some 8 := by kernel_rfl
theorem tg3 : tag Try.prog 3 = some false := by kernel_rfl
theorem u3 : Try.prog.underlying 3 = some (.int .i64) := by kernel_rfl
theorem tz3 : tzero Try.prog 3 = some (.int .i64 0) := by kernel_rfl
theorem ts4 : tsz Try.prog 4 = some 1 := by kernel_rfl
theorem tb4 : tbytes Try.prog 4 = some 1 := by kernel_rfl
theorem tg4 : tag Try.prog 4 = some false := by kernel_rfl
theorem u4 : Try.prog.underlying 4 = some .bool := by kernel_rfl
theorem tz4 : tzero Try.prog 4 = some (.bool false) := by kernel_rfl
theorem ts5 : tsz Try.prog 5 = some 1 := by kernel_rfl
theorem tb5 : tbytes Try.prog 5 = some 1 := by kernel_rfl
theorem tg5 : tag Try.prog 5 = some false := by kernel_rfl
theorem u5 : Try.prog.underlying 5 = some (.int .u8) := by kernel_rfl
theorem tz5 : tzero Try.prog 5 = some (.int .u8 0) := by kernel_rfl
theorem ts9 : tsz Try.prog 9 = some 1 := by kernel_rfl
theorem tb9 : tbytes Try.prog 9 = some 16 := by kernel_rfl
theorem tg9 : tag Try.prog 9 = some false := by kernel_rfl
theorem u9 : Try.prog.underlying 9 = some .string := by kernel_rfl
theorem tz9 : tzero Try.prog 9 = some (.string ByteArray.empty) := by kernel_rfl
theorem ts12 : tsz Try.prog 12 = some 1 := by kernel_rfl
theorem tb12 : tbytes Try.prog 12 = some 8 := by kernel_rfl
theorem tg12 : tag Try.prog 12 = some false := by kernel_rfl
theorem u12 : Try.prog.underlying 12 = some (.int .u64) := by kernel_rfl
theorem tz12 : tzero Try.prog 12 = some (.int .u64 0) := by kernel_rfl
theorem ts13 : tsz Try.prog 13 = some 2 := by kernel_rfl
theorem tb13 : tbytes Try.prog 13 = some 24 := by kernel_rfl
theorem tg13 : tag Try.prog 13 = some true := by kernel_rfl
theorem u13 : Try.prog.underlying 13 = some (.struct (Try.prog.fieldsOf 13)) := by kernel_rfl
theorem tz13 : tzero Try.prog 13 = some (.agg #[(.string ByteArray.empty), (.int .u64 0)]) := by kernel_rfl
theorem tf13_0 : tfield Try.prog 13 0 = some (0, 9) := by kernel_rfl
theorem tf13_1 : tfield Try.prog 13 1 = some (1, 12) := by kernel_rfl
theorem tp13 : tplaces Try.prog 13 = some [(0, 1), (1, 1)] := by kernel_rfl
theorem ts15 : tsz Try.prog 15 = some 1 := by kernel_rfl
theorem tb15 : tbytes Try.prog 15 = some 8 := by kernel_rfl
theorem tg15 : tag Try.prog 15 = some false := by kernel_rfl
theorem u15 : Try.prog.underlying 15 = some (.pointer 81) := by kernel_rfl
theorem tz15 : tzero Try.prog 15 = some (.pointer none) := by kernel_rfl
theorem ts16 : tsz Try.prog 16 = some 1 := by kernel_rfl
theorem tb16 : tbytes Try.prog 16 = some 8 := by kernel_rfl
theorem tg16 : tag Try.prog 16 = some false := by kernel_rfl
theorem u16 : Try.prog.underlying 16 = some (.pointer 84) := by kernel_rfl
theorem tz16 : tzero Try.prog 16 = some (.pointer none) := by kernel_rfl
theorem ts17 : tsz Try.prog 17 = some 1 := by kernel_rfl
theorem tb17 : tbytes Try.prog 17 = some 8 := by kernel_rfl
theorem tg17 : tag Try.prog 17 = some false := by kernel_rfl
theorem u17 : Try.prog.underlying 17 = some (.pointer 93) := by kernel_rfl
theorem tz17 : tzero Try.prog 17 = some (.pointer none) := by kernel_rfl
theorem ts18 : tsz Try.prog 18 = some 1 := by kernel_rfl
theorem tb18 : tbytes Try.prog 18 = some 8 := by kernel_rfl
theorem tg18 : tag Try.prog 18 = some true := by kernel_rfl
theorem u18 : Try.prog.underlying 18 = some (.struct (Try.prog.fieldsOf 18)) := by kernel_rfl
theorem tz18 : tzero Try.prog 18 = some (.agg #[(.pointer none)]) := by kernel_rfl
theorem tf18_0 : tfield Try.prog 18 0 = some (0, 17) := by kernel_rfl
theorem tp18 : tplaces Try.prog 18 = some [(0, 1)] := by kernel_rfl
theorem ts21 : tsz Try.prog 21 = some 1 := by kernel_rfl
theorem tb21 : tbytes Try.prog 21 = some 4 := by kernel_rfl
theorem tg21 : tag Try.prog 21 = some false := by kernel_rfl
theorem u21 : Try.prog.underlying 21 = some (.int .i32) := by kernel_rfl
theorem tz21 : tzero Try.prog 21 = some (.int .i32 0) := by kernel_rfl
theorem ts22 : tsz Try.prog 22 = some 1 := by kernel_rfl
theorem tb22 : tbytes Try.prog 22 = some 24 := by kernel_rfl
theorem tg22 : tag Try.prog 22 = some false := by kernel_rfl
theorem u22 : Try.prog.underlying 22 = some (.slice 34) := by kernel_rfl
theorem tz22 : tzero Try.prog 22 = some (.slice none 0 0) := by kernel_rfl
theorem ts23 : tsz Try.prog 23 = some 1 := by kernel_rfl
theorem tb23 : tbytes Try.prog 23 = some 24 := by kernel_rfl
theorem tg23 : tag Try.prog 23 = some false := by kernel_rfl
theorem u23 : Try.prog.underlying 23 = some (.slice 3) := by kernel_rfl
theorem tz23 : tzero Try.prog 23 = some (.slice none 0 0) := by kernel_rfl
theorem ts26 : tsz Try.prog 26 = some 1 := by kernel_rfl
theorem tb26 : tbytes Try.prog 26 = some 8 := by kernel_rfl
theorem tg26 : tag Try.prog 26 = some false := by kernel_rfl
theorem u26 : Try.prog.underlying 26 = some (.int .i64) := by kernel_rfl
theorem tz26 : tzero Try.prog 26 = some (.int .i64 0) := by kernel_rfl
theorem ts33 : tsz Try.prog 33 = some 2 := by kernel_rfl
theorem tb33 : tbytes Try.prog 33 = some 16 := by kernel_rfl
theorem tg33 : tag Try.prog 33 = some true := by kernel_rfl
theorem u33 : Try.prog.underlying 33 = some (.struct (Try.prog.fieldsOf 33)) := by kernel_rfl
theorem tz33 : tzero Try.prog 33 = some (.agg #[(.int .i64 0), (.int .i64 0)]) := by kernel_rfl
theorem tf33_0 : tfield Try.prog 33 0 = some (0, 3) := by kernel_rfl
theorem tf33_1 : tfield Try.prog 33 1 = some (1, 3) := by kernel_rfl
theorem tp33 : tplaces Try.prog 33 = some [(0, 1), (1, 1)] := by kernel_rfl
theorem eqx33 (a0 b0 : Int) (a1 b1 : Int) : abin Try.prog .eql 33 (.agg #[.int .i64 a0, .int .i64 a1]) (.agg #[.int .i64 b0, .int .i64 b1]) = some (.bool ((a0 == b0) && ((a1 == b1) && true))) := by kernel_rfl
theorem eq33 (a0 b0 : Int) (a1 b1 : Int) : abin Try.prog .eql 33 (.agg #[.int .i64 a0, .int .i64 a1]) (.agg #[.int .i64 b0, .int .i64 b1]) = some (.bool ((a0 == b0) && ((a1 == b1)))) := by rw [eqx33]; simp only [Bool.and_true]
theorem nex33 (a0 b0 : Int) (a1 b1 : Int) : abin Try.prog .neq 33 (.agg #[.int .i64 a0, .int .i64 a1]) (.agg #[.int .i64 b0, .int .i64 b1]) = some (.bool (!((a0 == b0) && ((a1 == b1) && true)))) := by kernel_rfl
theorem ne33 (a0 b0 : Int) (a1 b1 : Int) : abin Try.prog .neq 33 (.agg #[.int .i64 a0, .int .i64 a1]) (.agg #[.int .i64 b0, .int .i64 b1]) = some (.bool (!((a0 == b0) && ((a1 == b1))))) := by rw [nex33]; simp only [Bool.and_true]
theorem ts34 : tsz Try.prog 34 = some 2 := by kernel_rfl
theorem tb34 : tbytes Try.prog 34 = some 16 := by kernel_rfl
theorem tg34 : tag Try.prog 34 = some true := by kernel_rfl
theorem u34 : Try.prog.underlying 34 = some (.struct (Try.prog.fieldsOf 34)) := by kernel_rfl
theorem tz34 : tzero Try.prog 34 = some (.agg #[(.int .i64 0), (.int .i64 0)]) := by kernel_rfl
theorem tf34_0 : tfield Try.prog 34 0 = some (0, 3) := by kernel_rfl
theorem tf34_1 : tfield Try.prog 34 1 = some (1, 3) := by kernel_rfl
theorem tp34 : tplaces Try.prog 34 = some [(0, 1), (1, 1)] := by kernel_rfl
theorem eqx34 (a0 b0 : Int) (a1 b1 : Int) : abin Try.prog .eql 34 (.agg #[.int .i64 a0, .int .i64 a1]) (.agg #[.int .i64 b0, .int .i64 b1]) = some (.bool ((a0 == b0) && ((a1 == b1) && true))) := by kernel_rfl
theorem eq34 (a0 b0 : Int) (a1 b1 : Int) : abin Try.prog .eql 34 (.agg #[.int .i64 a0, .int .i64 a1]) (.agg #[.int .i64 b0, .int .i64 b1]) = some (.bool ((a0 == b0) && ((a1 == b1)))) := by rw [eqx34]; simp only [Bool.and_true]
theorem nex34 (a0 b0 : Int) (a1 b1 : Int) : abin Try.prog .neq 34 (.agg #[.int .i64 a0, .int .i64 a1]) (.agg #[.int .i64 b0, .int .i64 b1]) = some (.bool (!((a0 == b0) && ((a1 == b1) && true)))) := by kernel_rfl
theorem ne34 (a0 b0 : Int) (a1 b1 : Int) : abin Try.prog .neq 34 (.agg #[.int .i64 a0, .int .i64 a1]) (.agg #[.int .i64 b0, .int .i64 b1]) = some (.bool (!((a0 == b0) && ((a1 == b1))))) := by rw [nex34]; simp only [Bool.and_true]
theorem ts36 : tsz Try.prog 36 = some 1 := by kernel_rfl
theorem tb36 : tbytes Try.prog 36 = some 2 := by kernel_rfl
theorem tg36 : tag Try.prog 36 = some false := by kernel_rfl
theorem u36 : Try.prog.underlying 36 = some (.int .i16) := by kernel_rfl
theorem tz36 : tzero Try.prog 36 = some (.int .i16 0) := by kernel_rfl
theorem ts41 : tsz Try.prog 41 = some 2 := by kernel_rfl
theorem tb41 : tbytes Try.prog 41 = some 48 := by kernel_rfl
theorem tg41 : tag Try.prog 41 = some true := by kernel_rfl
theorem u41 : Try.prog.underlying 41 = some (.struct (Try.prog.fieldsOf 41)) := by kernel_rfl
theorem tz41 : tzero Try.prog 41 = some (.agg #[(.slice none 0 0), (.slice none 0 0)]) := by kernel_rfl
theorem tf41_0 : tfield Try.prog 41 0 = some (0, 23) := by kernel_rfl
theorem tf41_1 : tfield Try.prog 41 1 = some (1, 23) := by kernel_rfl
theorem tp41 : tplaces Try.prog 41 = some [(0, 1), (1, 1)] := by kernel_rfl
theorem ts42 : tsz Try.prog 42 = some 2 := by kernel_rfl
theorem tb42 : tbytes Try.prog 42 = some 48 := by kernel_rfl
theorem tg42 : tag Try.prog 42 = some true := by kernel_rfl
theorem u42 : Try.prog.underlying 42 = some (.struct (Try.prog.fieldsOf 42)) := by kernel_rfl
theorem tz42 : tzero Try.prog 42 = some (.agg #[(.slice none 0 0), (.slice none 0 0)]) := by kernel_rfl
theorem tf42_0 : tfield Try.prog 42 0 = some (0, 23) := by kernel_rfl
theorem tf42_1 : tfield Try.prog 42 1 = some (1, 23) := by kernel_rfl
theorem tp42 : tplaces Try.prog 42 = some [(0, 1), (1, 1)] := by kernel_rfl
theorem ts51 : tsz Try.prog 51 = some 1 := by kernel_rfl
theorem tb51 : tbytes Try.prog 51 = some 8 := by kernel_rfl
theorem tg51 : tag Try.prog 51 = some false := by kernel_rfl
theorem u51 : Try.prog.underlying 51 = some (.pointer 42) := by kernel_rfl
theorem tz51 : tzero Try.prog 51 = some (.pointer none) := by kernel_rfl
theorem ts54 : tsz Try.prog 54 = some 1 := by kernel_rfl
theorem tb54 : tbytes Try.prog 54 = some 8 := by kernel_rfl
theorem tg54 : tag Try.prog 54 = some false := by kernel_rfl
theorem u54 : Try.prog.underlying 54 = some (.int .u64) := by kernel_rfl
theorem tz54 : tzero Try.prog 54 = some (.int .u64 0) := by kernel_rfl
theorem ts59 : tsz Try.prog 59 = some 1 := by kernel_rfl
theorem tb59 : tbytes Try.prog 59 = some 8 := by kernel_rfl
theorem tg59 : tag Try.prog 59 = some false := by kernel_rfl
theorem u59 : Try.prog.underlying 59 = some (.int .i64) := by kernel_rfl
theorem tz59 : tzero Try.prog 59 = some (.int .i64 0) := by kernel_rfl
theorem ts67 : tsz Try.prog 67 = some 1 := by kernel_rfl
theorem tb67 : tbytes Try.prog 67 = some 4 := by kernel_rfl
theorem tg67 : tag Try.prog 67 = some false := by kernel_rfl
theorem u67 : Try.prog.underlying 67 = some (.int .u32) := by kernel_rfl
theorem tz67 : tzero Try.prog 67 = some (.int .u32 0) := by kernel_rfl
theorem ts69 : tsz Try.prog 69 = some 1 := by kernel_rfl
theorem tb69 : tbytes Try.prog 69 = some 8 := by kernel_rfl
theorem tg69 : tag Try.prog 69 = some false := by kernel_rfl
theorem u69 : Try.prog.underlying 69 = some (.int .u64) := by kernel_rfl
theorem tz69 : tzero Try.prog 69 = some (.int .u64 0) := by kernel_rfl
theorem ts70 : tsz Try.prog 70 = some 1 := by kernel_rfl
theorem tb70 : tbytes Try.prog 70 = some 8 := by kernel_rfl
theorem tg70 : tag Try.prog 70 = some false := by kernel_rfl
theorem u70 : Try.prog.underlying 70 = some (.int .u64) := by kernel_rfl
theorem tz70 : tzero Try.prog 70 = some (.int .u64 0) := by kernel_rfl
theorem ts74 : tsz Try.prog 74 = some 1 := by kernel_rfl
theorem tb74 : tbytes Try.prog 74 = some 8 := by kernel_rfl
theorem tg74 : tag Try.prog 74 = some false := by kernel_rfl
theorem u74 : Try.prog.underlying 74 = some (.pointer 3) := by kernel_rfl
theorem tz74 : tzero Try.prog 74 = some (.pointer none) := by kernel_rfl
theorem ts76 : tsz Try.prog 76 = some 1 := by kernel_rfl
theorem tb76 : tbytes Try.prog 76 = some 8 := by kernel_rfl
theorem tg76 : tag Try.prog 76 = some false := by kernel_rfl
theorem u76 : Try.prog.underlying 76 = some (.pointer 70) := by kernel_rfl
theorem tz76 : tzero Try.prog 76 = some (.pointer none) := by kernel_rfl
theorem ts82 : tsz Try.prog 82 = some 0 := by kernel_rfl
theorem tb82 : tbytes Try.prog 82 = some 0 := by kernel_rfl
theorem tg82 : tag Try.prog 82 = some true := by kernel_rfl
theorem u82 : Try.prog.underlying 82 = some (.array 0 16) := by kernel_rfl
theorem tz82 : tzero Try.prog 82 = some (.agg #[]) := by kernel_rfl
theorem ts89 : tsz Try.prog 89 = some 1 := by kernel_rfl
theorem tb89 : tbytes Try.prog 89 = some 8 := by kernel_rfl
theorem tg89 : tag Try.prog 89 = some false := by kernel_rfl
theorem u89 : Try.prog.underlying 89 = some (.pointer 5) := by kernel_rfl
theorem tz89 : tzero Try.prog 89 = some (.pointer none) := by kernel_rfl
theorem bs22_4_0_1_2_3 (H : Hp) (x0_0 : Int) (x0_1 : Int) (x1_0 : Int) (x1_1 : Int) (x2_0 : Int) (x2_1 : Int) (x3_0 : Int) (x3_1 : Int) : abuildSlice Try.prog H 22 4 [(0, .agg #[.int .i64 x0_0, .int .i64 x0_1]), (1, .agg #[.int .i64 x1_0, .int .i64 x1_1]), (2, .agg #[.int .i64 x2_0, .int .i64 x2_1]), (3, .agg #[.int .i64 x3_0, .int .i64 x3_1])] = some (.slice (some ⟨H.next, 0, none⟩) 4 4, H.new (.row [.int .i64 x0_0, .int .i64 x0_1, .int .i64 x1_0, .int .i64 x1_1, .int .i64 x2_0, .int .i64 x2_1, .int .i64 x3_0, .int .i64 x3_1] true 2)) := by kernel_rfl
theorem bs23_2_0_1 (H : Hp) (x0 : Int) (x1 : Int) : abuildSlice Try.prog H 23 2 [(0, .int .i64 x0), (1, .int .i64 x1)] = some (.slice (some ⟨H.next, 0, none⟩) 2 2, H.new (.row [.int .i64 x0, .int .i64 x1] true 1)) := by kernel_rfl
theorem bs23_3_0_1_2 (H : Hp) (x0 : Int) (x1 : Int) (x2 : Int) : abuildSlice Try.prog H 23 3 [(0, .int .i64 x0), (1, .int .i64 x1), (2, .int .i64 x2)] = some (.slice (some ⟨H.next, 0, none⟩) 3 3, H.new (.row [.int .i64 x0, .int .i64 x1, .int .i64 x2] true 1)) := by kernel_rfl
theorem bd34_0_1 (x0 : Int) (x1 : Int) : abuild Try.prog 34 [(0, .int .i64 x0), (1, .int .i64 x1)] = some (.agg #[.int .i64 x0, .int .i64 x1]) := by kernel_rfl
theorem bs23_1_0 (H : Hp) (x0 : Int) : abuildSlice Try.prog H 23 1 [(0, .int .i64 x0)] = some (.slice (some ⟨H.next, 0, none⟩) 1 1, H.new (.row [.int .i64 x0] true 1)) := by kernel_rfl
theorem bs22_1_0 (H : Hp) (x0_0 : Int) (x0_1 : Int) : abuildSlice Try.prog H 22 1 [(0, .agg #[.int .i64 x0_0, .int .i64 x0_1])] = some (.slice (some ⟨H.next, 0, none⟩) 1 1, H.new (.row [.int .i64 x0_0, .int .i64 x0_1] true 2)) := by kernel_rfl
theorem bs22_2_0_1 (H : Hp) (x0_0 : Int) (x0_1 : Int) (x1_0 : Int) (x1_1 : Int) : abuildSlice Try.prog H 22 2 [(0, .agg #[.int .i64 x0_0, .int .i64 x0_1]), (1, .agg #[.int .i64 x1_0, .int .i64 x1_1])] = some (.slice (some ⟨H.next, 0, none⟩) 2 2, H.new (.row [.int .i64 x0_0, .int .i64 x0_1, .int .i64 x1_0, .int .i64 x1_1] true 2)) := by kernel_rfl
theorem bs22_0_ (H : Hp)  : abuildSlice Try.prog H 22 0 [] = some (.slice (some ⟨H.next, 0, none⟩) 0 0, H.new (.row [] true 2)) := by kernel_rfl
theorem bs23_0_ (H : Hp)  : abuildSlice Try.prog H 23 0 [] = some (.slice (some ⟨H.next, 0, none⟩) 0 0, H.new (.row [] true 1)) := by kernel_rfl
attribute [go_sem] ts2 tb2 tg2 u2 tz2 ts3 tb3 tg3 u3 tz3 ts4 tb4
attribute [go_sem] tg4 u4 tz4 ts5 tb5 tg5 u5 tz5 ts9 tb9 tg9 u9
attribute [go_sem] tz9 ts12 tb12 tg12 u12 tz12 ts13 tb13 tg13 u13 tz13 tf13_0
attribute [go_sem] tf13_1 tp13 ts15 tb15 tg15 u15 tz15 ts16 tb16 tg16 u16 tz16
attribute [go_sem] ts17 tb17 tg17 u17 tz17 ts18 tb18 tg18 u18 tz18 tf18_0 tp18
attribute [go_sem] ts21 tb21 tg21 u21 tz21 ts22 tb22 tg22 u22 tz22 ts23 tb23
attribute [go_sem] tg23 u23 tz23 ts26 tb26 tg26 u26 tz26 ts33 tb33 tg33 u33
attribute [go_sem] tz33 tf33_0 tf33_1 tp33 eq33 ne33 ts34 tb34 tg34 u34 tz34 tf34_0
attribute [go_sem] tf34_1 tp34 eq34 ne34 ts36 tb36 tg36 u36 tz36 ts41 tb41 tg41
attribute [go_sem] u41 tz41 tf41_0 tf41_1 tp41 ts42 tb42 tg42 u42 tz42 tf42_0 tf42_1
attribute [go_sem] tp42 ts51 tb51 tg51 u51 tz51 ts54 tb54 tg54 u54 tz54 ts59
attribute [go_sem] tb59 tg59 u59 tz59 ts67 tb67 tg67 u67 tz67 ts69 tb69 tg69
attribute [go_sem] u69 tz69 ts70 tb70 tg70 u70 tz70 ts74 tb74 tg74 u74 tz74
attribute [go_sem] ts76 tb76 tg76 u76 tz76 ts82 tb82 tg82 u82 tz82 ts89 tb89
attribute [go_sem] tg89 u89 tz89 bs22_4_0_1_2_3 bs23_2_0_1 bs23_3_0_1_2 bd34_0_1 bs23_1_0 bs22_1_0 bs22_2_0_1 bs22_0_ bs23_0_
end Go.Proofs.Ytjgdmjoafpbnaaa
