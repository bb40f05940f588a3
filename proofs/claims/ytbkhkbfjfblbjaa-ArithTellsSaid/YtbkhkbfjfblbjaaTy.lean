/- Closed facts on the types of the program. No conditions. -/
import Derived.Test.YtbkhkbfjfblbjaaSx9
import Derived.Test.YtbkhkbfjfblbjaaRows
import Derived.KernelRfl
namespace Go.Proofs.Ytbkhkbfjfblbjaa
open Go Go.Sx

theorem ta0 : tAgg Try.prog 0 = some false := by kernel_rfl
theorem ts0 : tSize Try.prog 0 = some 1 := by kernel_rfl
theorem ta1 : tAgg Try.prog 1 = some false := by kernel_rfl
theorem ts1 : tSize Try.prog 1 = some 1 := by kernel_rfl
theorem tz1 : tZero Try.prog 1 = some (.nilFunc) := by kernel_rfl
theorem ta2 : tAgg Try.prog 2 = some false := by kernel_rfl
theorem ts2 : tSize Try.prog 2 = some 1 := by kernel_rfl
theorem tz2 : tZero Try.prog 2 = some (.int .i64 0) := by kernel_rfl
theorem ti2 : tInt Try.prog 2 = some .i64 := by kernel_rfl
theorem ta3 : tAgg Try.prog 3 = some false := by kernel_rfl
theorem ts3 : tSize Try.prog 3 = some 1 := by kernel_rfl
theorem tz3 : tZero Try.prog 3 = some (.int .i64 0) := by kernel_rfl
theorem ti3 : tInt Try.prog 3 = some .i64 := by kernel_rfl
theorem ta4 : tAgg Try.prog 4 = some false := by kernel_rfl
theorem ts4 : tSize Try.prog 4 = some 1 := by kernel_rfl
theorem tz4 : tZero Try.prog 4 = some (.bool false) := by kernel_rfl
theorem tb4 : Try.prog.underlying 4 = some .bool := by kernel_rfl
theorem ta5 : tAgg Try.prog 5 = some false := by kernel_rfl
theorem ts5 : tSize Try.prog 5 = some 1 := by kernel_rfl
theorem tz5 : tZero Try.prog 5 = some (.int .u8 0) := by kernel_rfl
theorem ti5 : tInt Try.prog 5 = some .u8 := by kernel_rfl
theorem ta6 : tAgg Try.prog 6 = some false := by kernel_rfl
theorem ts6 : tSize Try.prog 6 = some 1 := by kernel_rfl
theorem tz6 : tZero Try.prog 6 = some (.int .u8 0) := by kernel_rfl
theorem ti6 : tInt Try.prog 6 = some .u8 := by kernel_rfl
theorem ta7 : tAgg Try.prog 7 = some true := by kernel_rfl
theorem ts7 : tSize Try.prog 7 = some 4 := by kernel_rfl
theorem tz7 : tZero Try.prog 7 = some (.agg #[.int .i64 0, .int .i64 0, .bool false, .int .u8 0]) := by kernel_rfl
theorem tf7_0 : tField Try.prog 7 0 = some (0, 2) := by kernel_rfl
theorem tf7_1 : tField Try.prog 7 1 = some (1, 3) := by kernel_rfl
theorem tf7_2 : tField Try.prog 7 2 = some (2, 4) := by kernel_rfl
theorem tf7_3 : tField Try.prog 7 3 = some (3, 6) := by kernel_rfl
theorem tp7 : tPlaces Try.prog 7 = some [(0, 1), (1, 1), (2, 1), (3, 1)] := by kernel_rfl
theorem ta8 : tAgg Try.prog 8 = some true := by kernel_rfl
theorem ts8 : tSize Try.prog 8 = some 4 := by kernel_rfl
theorem tz8 : tZero Try.prog 8 = some (.agg #[.int .i64 0, .int .i64 0, .bool false, .int .u8 0]) := by kernel_rfl
theorem ta9 : tAgg Try.prog 9 = some false := by kernel_rfl
theorem ts9 : tSize Try.prog 9 = some 1 := by kernel_rfl
theorem tz9 : tZero Try.prog 9 = some (.string ByteArray.empty) := by kernel_rfl
theorem tst9 : Try.prog.underlying 9 = some .string := by kernel_rfl
theorem ta10 : tAgg Try.prog 10 = some false := by kernel_rfl
theorem ts10 : tSize Try.prog 10 = some 1 := by kernel_rfl
theorem tz10 : tZero Try.prog 10 = some (.string ByteArray.empty) := by kernel_rfl
theorem tst10 : Try.prog.underlying 10 = some .string := by kernel_rfl
theorem ta11 : tAgg Try.prog 11 = some false := by kernel_rfl
theorem ts11 : tSize Try.prog 11 = some 1 := by kernel_rfl
theorem tz11 : tZero Try.prog 11 = some (.string ByteArray.empty) := by kernel_rfl
theorem tst11 : Try.prog.underlying 11 = some .string := by kernel_rfl
theorem ta12 : tAgg Try.prog 12 = some false := by kernel_rfl
theorem ts12 : tSize Try.prog 12 = some 1 := by kernel_rfl
theorem tz12 : tZero Try.prog 12 = some (.int .u64 0) := by kernel_rfl
theorem ti12 : tInt Try.prog 12 = some .u64 := by kernel_rfl
theorem ta13 : tAgg Try.prog 13 = some true := by kernel_rfl
theorem ts13 : tSize Try.prog 13 = some 2 := by kernel_rfl
theorem tz13 : tZero Try.prog 13 = some (.agg #[.string ByteArray.empty, .int .u64 0]) := by kernel_rfl
theorem tf13_0 : tField Try.prog 13 0 = some (0, 9) := by kernel_rfl
theorem tf13_1 : tField Try.prog 13 1 = some (1, 12) := by kernel_rfl
theorem tp13 : tPlaces Try.prog 13 = some [(0, 1), (1, 1)] := by kernel_rfl
theorem ta14 : tAgg Try.prog 14 = some true := by kernel_rfl
theorem ts14 : tSize Try.prog 14 = some 2 := by kernel_rfl
theorem tz14 : tZero Try.prog 14 = some (.agg #[.string ByteArray.empty, .int .u64 0]) := by kernel_rfl
theorem ta15 : tAgg Try.prog 15 = some false := by kernel_rfl
theorem ts15 : tSize Try.prog 15 = some 1 := by kernel_rfl
theorem tz15 : tZero Try.prog 15 = some (.pointer none) := by kernel_rfl
theorem ta16 : tAgg Try.prog 16 = some false := by kernel_rfl
theorem ts16 : tSize Try.prog 16 = some 1 := by kernel_rfl
theorem tz16 : tZero Try.prog 16 = some (.pointer none) := by kernel_rfl
theorem ta17 : tAgg Try.prog 17 = some false := by kernel_rfl
theorem ts17 : tSize Try.prog 17 = some 1 := by kernel_rfl
theorem tz17 : tZero Try.prog 17 = some (.pointer none) := by kernel_rfl
theorem ta18 : tAgg Try.prog 18 = some true := by kernel_rfl
theorem ts18 : tSize Try.prog 18 = some 1 := by kernel_rfl
theorem tz18 : tZero Try.prog 18 = some (.agg #[.pointer none]) := by kernel_rfl
theorem tf18_0 : tField Try.prog 18 0 = some (0, 17) := by kernel_rfl
theorem tp18 : tPlaces Try.prog 18 = some [(0, 1)] := by kernel_rfl
theorem ta19 : tAgg Try.prog 19 = some true := by kernel_rfl
theorem ts19 : tSize Try.prog 19 = some 1 := by kernel_rfl
theorem tz19 : tZero Try.prog 19 = some (.agg #[.pointer none]) := by kernel_rfl
theorem ta20 : tAgg Try.prog 20 = some false := by kernel_rfl
theorem ts20 : tSize Try.prog 20 = some 1 := by kernel_rfl
theorem tz20 : tZero Try.prog 20 = some (.nilIface) := by kernel_rfl
theorem ta21 : tAgg Try.prog 21 = some false := by kernel_rfl
theorem ts21 : tSize Try.prog 21 = some 1 := by kernel_rfl
theorem tz21 : tZero Try.prog 21 = some (.int .i32 0) := by kernel_rfl
theorem ti21 : tInt Try.prog 21 = some .i32 := by kernel_rfl
theorem ta22 : tAgg Try.prog 22 = some true := by kernel_rfl
theorem ts22 : tSize Try.prog 22 = some 3 := by kernel_rfl
theorem tz22 : tZero Try.prog 22 = some (.agg #[.bool false, .int .i64 0, .int .i64 0]) := by kernel_rfl
theorem tf22_0 : tField Try.prog 22 0 = some (0, 4) := by kernel_rfl
theorem tf22_1 : tField Try.prog 22 1 = some (1, 2) := by kernel_rfl
theorem tf22_2 : tField Try.prog 22 2 = some (2, 2) := by kernel_rfl
theorem tp22 : tPlaces Try.prog 22 = some [(0, 1), (1, 1), (2, 1)] := by kernel_rfl
theorem ta23 : tAgg Try.prog 23 = some true := by kernel_rfl
theorem ts23 : tSize Try.prog 23 = some 3 := by kernel_rfl
theorem tz23 : tZero Try.prog 23 = some (.agg #[.bool false, .int .i64 0, .int .i64 0]) := by kernel_rfl
theorem tf23_0 : tField Try.prog 23 0 = some (0, 4) := by kernel_rfl
theorem tf23_1 : tField Try.prog 23 1 = some (1, 2) := by kernel_rfl
theorem tf23_2 : tField Try.prog 23 2 = some (2, 2) := by kernel_rfl
theorem tp23 : tPlaces Try.prog 23 = some [(0, 1), (1, 1), (2, 1)] := by kernel_rfl
theorem tq23 : tEq Try.prog 23 = some [(0, .b), (1, .i), (2, .i)] := by kernel_rfl
theorem ta24 : tAgg Try.prog 24 = some false := by kernel_rfl
theorem ts24 : tSize Try.prog 24 = some 1 := by kernel_rfl
theorem tz24 : tZero Try.prog 24 = some (.int .u64 0) := by kernel_rfl
theorem ti24 : tInt Try.prog 24 = some .u64 := by kernel_rfl
theorem ta25 : tAgg Try.prog 25 = some false := by kernel_rfl
theorem ts25 : tSize Try.prog 25 = some 1 := by kernel_rfl
theorem tz25 : tZero Try.prog 25 = some (.nilFunc) := by kernel_rfl
theorem ta26 : tAgg Try.prog 26 = some false := by kernel_rfl
theorem ts26 : tSize Try.prog 26 = some 1 := by kernel_rfl
theorem tz26 : tZero Try.prog 26 = some (.nilFunc) := by kernel_rfl
theorem ta27 : tAgg Try.prog 27 = some false := by kernel_rfl
theorem ts27 : tSize Try.prog 27 = some 1 := by kernel_rfl
theorem ta28 : tAgg Try.prog 28 = some false := by kernel_rfl
theorem ts28 : tSize Try.prog 28 = some 1 := by kernel_rfl
theorem tz28 : tZero Try.prog 28 = some (.nilFunc) := by kernel_rfl
theorem ta29 : tAgg Try.prog 29 = some false := by kernel_rfl
theorem ts29 : tSize Try.prog 29 = some 1 := by kernel_rfl
theorem tz29 : tZero Try.prog 29 = some (.nilFunc) := by kernel_rfl
theorem ta30 : tAgg Try.prog 30 = some false := by kernel_rfl
theorem ts30 : tSize Try.prog 30 = some 1 := by kernel_rfl
theorem tz30 : tZero Try.prog 30 = some (.nilFunc) := by kernel_rfl
theorem ta31 : tAgg Try.prog 31 = some false := by kernel_rfl
theorem ts31 : tSize Try.prog 31 = some 1 := by kernel_rfl
theorem tz31 : tZero Try.prog 31 = some (.nilFunc) := by kernel_rfl
theorem ta32 : tAgg Try.prog 32 = some false := by kernel_rfl
theorem ts32 : tSize Try.prog 32 = some 1 := by kernel_rfl
theorem tz32 : tZero Try.prog 32 = some (.nilFunc) := by kernel_rfl
theorem ta33 : tAgg Try.prog 33 = some false := by kernel_rfl
theorem ts33 : tSize Try.prog 33 = some 1 := by kernel_rfl
theorem tz33 : tZero Try.prog 33 = some (.nilFunc) := by kernel_rfl
theorem ta34 : tAgg Try.prog 34 = some false := by kernel_rfl
theorem ts34 : tSize Try.prog 34 = some 1 := by kernel_rfl
theorem tz34 : tZero Try.prog 34 = some (.slice none 0 0) := by kernel_rfl
theorem te34 : tElem Try.prog 34 = some 3 := by kernel_rfl
theorem ta35 : tAgg Try.prog 35 = some false := by kernel_rfl
theorem ts35 : tSize Try.prog 35 = some 1 := by kernel_rfl
theorem tz35 : tZero Try.prog 35 = some (.nilFunc) := by kernel_rfl
theorem ta36 : tAgg Try.prog 36 = some false := by kernel_rfl
theorem ts36 : tSize Try.prog 36 = some 1 := by kernel_rfl
theorem tz36 : tZero Try.prog 36 = some (.nilFunc) := by kernel_rfl
theorem ta37 : tAgg Try.prog 37 = some false := by kernel_rfl
theorem ts37 : tSize Try.prog 37 = some 1 := by kernel_rfl
theorem tz37 : tZero Try.prog 37 = some (.nilFunc) := by kernel_rfl
theorem ta38 : tAgg Try.prog 38 = some false := by kernel_rfl
theorem ts38 : tSize Try.prog 38 = some 1 := by kernel_rfl
theorem tz38 : tZero Try.prog 38 = some (.nilFunc) := by kernel_rfl
theorem ta39 : tAgg Try.prog 39 = some false := by kernel_rfl
theorem ts39 : tSize Try.prog 39 = some 1 := by kernel_rfl
theorem tz39 : tZero Try.prog 39 = some (.nilFunc) := by kernel_rfl
theorem ta40 : tAgg Try.prog 40 = some false := by kernel_rfl
theorem ts40 : tSize Try.prog 40 = some 1 := by kernel_rfl
theorem ta41 : tAgg Try.prog 41 = some false := by kernel_rfl
theorem ts41 : tSize Try.prog 41 = some 1 := by kernel_rfl
theorem tz41 : tZero Try.prog 41 = some (.nilFunc) := by kernel_rfl
theorem ta42 : tAgg Try.prog 42 = some false := by kernel_rfl
theorem ts42 : tSize Try.prog 42 = some 1 := by kernel_rfl
theorem tz42 : tZero Try.prog 42 = some (.nilFunc) := by kernel_rfl
theorem ta43 : tAgg Try.prog 43 = some false := by kernel_rfl
theorem ts43 : tSize Try.prog 43 = some 1 := by kernel_rfl
theorem tz43 : tZero Try.prog 43 = some (.nilFunc) := by kernel_rfl
theorem ta44 : tAgg Try.prog 44 = some false := by kernel_rfl
theorem ts44 : tSize Try.prog 44 = some 1 := by kernel_rfl
theorem tz44 : tZero Try.prog 44 = some (.nilFunc) := by kernel_rfl
theorem ta45 : tAgg Try.prog 45 = some false := by kernel_rfl
theorem ts45 : tSize Try.prog 45 = some 1 := by kernel_rfl
theorem tz45 : tZero Try.prog 45 = some (.nilFunc) := by kernel_rfl
theorem ta46 : tAgg Try.prog 46 = some false := by kernel_rfl
theorem ts46 : tSize Try.prog 46 = some 1 := by kernel_rfl
theorem tz46 : tZero Try.prog 46 = some (.nilFunc) := by kernel_rfl
theorem ta47 : tAgg Try.prog 47 = some false := by kernel_rfl
theorem ts47 : tSize Try.prog 47 = some 1 := by kernel_rfl
theorem tz47 : tZero Try.prog 47 = some (.slice none 0 0) := by kernel_rfl
theorem te47 : tElem Try.prog 47 = some 23 := by kernel_rfl
theorem ta48 : tAgg Try.prog 48 = some false := by kernel_rfl
theorem ts48 : tSize Try.prog 48 = some 1 := by kernel_rfl
theorem tz48 : tZero Try.prog 48 = some (.nilFunc) := by kernel_rfl
theorem ta49 : tAgg Try.prog 49 = some false := by kernel_rfl
theorem ts49 : tSize Try.prog 49 = some 1 := by kernel_rfl
theorem ta50 : tAgg Try.prog 50 = some false := by kernel_rfl
theorem ts50 : tSize Try.prog 50 = some 1 := by kernel_rfl
theorem tz50 : tZero Try.prog 50 = some (.nilFunc) := by kernel_rfl
theorem ta51 : tAgg Try.prog 51 = some false := by kernel_rfl
theorem ts51 : tSize Try.prog 51 = some 1 := by kernel_rfl
theorem tz51 : tZero Try.prog 51 = some (.nilFunc) := by kernel_rfl
theorem ta52 : tAgg Try.prog 52 = some false := by kernel_rfl
theorem ts52 : tSize Try.prog 52 = some 1 := by kernel_rfl
theorem tz52 : tZero Try.prog 52 = some (.nilFunc) := by kernel_rfl
theorem ta53 : tAgg Try.prog 53 = some false := by kernel_rfl
theorem ts53 : tSize Try.prog 53 = some 1 := by kernel_rfl
theorem ta54 : tAgg Try.prog 54 = some false := by kernel_rfl
theorem ts54 : tSize Try.prog 54 = some 1 := by kernel_rfl
theorem tz54 : tZero Try.prog 54 = some (.nilFunc) := by kernel_rfl
theorem ta55 : tAgg Try.prog 55 = some false := by kernel_rfl
theorem ts55 : tSize Try.prog 55 = some 1 := by kernel_rfl
theorem tz55 : tZero Try.prog 55 = some (.nilFunc) := by kernel_rfl
theorem ta56 : tAgg Try.prog 56 = some false := by kernel_rfl
theorem ts56 : tSize Try.prog 56 = some 1 := by kernel_rfl
theorem tz56 : tZero Try.prog 56 = some (.nilFunc) := by kernel_rfl
theorem ta57 : tAgg Try.prog 57 = some false := by kernel_rfl
theorem ts57 : tSize Try.prog 57 = some 1 := by kernel_rfl
theorem tz57 : tZero Try.prog 57 = some (.nilFunc) := by kernel_rfl
theorem ta58 : tAgg Try.prog 58 = some false := by kernel_rfl
theorem ts58 : tSize Try.prog 58 = some 1 := by kernel_rfl
theorem tz58 : tZero Try.prog 58 = some (.nilFunc) := by kernel_rfl
theorem ta59 : tAgg Try.prog 59 = some false := by kernel_rfl
theorem ts59 : tSize Try.prog 59 = some 1 := by kernel_rfl
theorem tz59 : tZero Try.prog 59 = some (.nilFunc) := by kernel_rfl
theorem ta60 : tAgg Try.prog 60 = some false := by kernel_rfl
theorem ts60 : tSize Try.prog 60 = some 1 := by kernel_rfl
theorem tz60 : tZero Try.prog 60 = some (.slice none 0 0) := by kernel_rfl
theorem te60 : tElem Try.prog 60 = some 2 := by kernel_rfl
theorem ta61 : tAgg Try.prog 61 = some false := by kernel_rfl
theorem ts61 : tSize Try.prog 61 = some 1 := by kernel_rfl
theorem tz61 : tZero Try.prog 61 = some (.nilFunc) := by kernel_rfl
theorem ta62 : tAgg Try.prog 62 = some true := by kernel_rfl
theorem ts62 : tSize Try.prog 62 = some 4 := by kernel_rfl
theorem tz62 : tZero Try.prog 62 = some (.agg #[.pointer none, .pointer none, .pointer none, .string ByteArray.empty]) := by kernel_rfl
theorem tf62_0 : tField Try.prog 62 0 = some (0, 17) := by kernel_rfl
theorem tf62_1 : tField Try.prog 62 1 = some (1, 17) := by kernel_rfl
theorem tf62_2 : tField Try.prog 62 2 = some (2, 17) := by kernel_rfl
theorem tf62_3 : tField Try.prog 62 3 = some (3, 9) := by kernel_rfl
theorem tp62 : tPlaces Try.prog 62 = some [(0, 1), (1, 1), (2, 1), (3, 1)] := by kernel_rfl
theorem ta63 : tAgg Try.prog 63 = some true := by kernel_rfl
theorem ts63 : tSize Try.prog 63 = some 4 := by kernel_rfl
theorem tz63 : tZero Try.prog 63 = some (.agg #[.pointer none, .pointer none, .pointer none, .string ByteArray.empty]) := by kernel_rfl
theorem ta64 : tAgg Try.prog 64 = some true := by kernel_rfl
theorem ts64 : tSize Try.prog 64 = some 0 := by kernel_rfl
theorem tz64 : tZero Try.prog 64 = some (.agg #[]) := by kernel_rfl
theorem ta65 : tAgg Try.prog 65 = some true := by kernel_rfl
theorem ts65 : tSize Try.prog 65 = some 0 := by kernel_rfl
theorem tz65 : tZero Try.prog 65 = some (.agg #[]) := by kernel_rfl
theorem tf65_0 : tField Try.prog 65 0 = some (0, 64) := by kernel_rfl
theorem tp65 : tPlaces Try.prog 65 = some [(0, 0)] := by kernel_rfl
theorem ta66 : tAgg Try.prog 66 = some true := by kernel_rfl
theorem ts66 : tSize Try.prog 66 = some 0 := by kernel_rfl
theorem tz66 : tZero Try.prog 66 = some (.agg #[]) := by kernel_rfl
theorem ta67 : tAgg Try.prog 67 = some false := by kernel_rfl
theorem ts67 : tSize Try.prog 67 = some 1 := by kernel_rfl
theorem tz67 : tZero Try.prog 67 = some (.nilFunc) := by kernel_rfl
theorem ta68 : tAgg Try.prog 68 = some false := by kernel_rfl
theorem ts68 : tSize Try.prog 68 = some 1 := by kernel_rfl
theorem tz68 : tZero Try.prog 68 = some (.int .u32 0) := by kernel_rfl
theorem ti68 : tInt Try.prog 68 = some .u32 := by kernel_rfl
theorem ta69 : tAgg Try.prog 69 = some false := by kernel_rfl
theorem ts69 : tSize Try.prog 69 = some 1 := by kernel_rfl
theorem tz69 : tZero Try.prog 69 = some (.int .u8 0) := by kernel_rfl
theorem ti69 : tInt Try.prog 69 = some .u8 := by kernel_rfl
theorem ta70 : tAgg Try.prog 70 = some false := by kernel_rfl
theorem ts70 : tSize Try.prog 70 = some 1 := by kernel_rfl
theorem tz70 : tZero Try.prog 70 = some (.int .u8 0) := by kernel_rfl
theorem ti70 : tInt Try.prog 70 = some .u8 := by kernel_rfl
theorem ta71 : tAgg Try.prog 71 = some false := by kernel_rfl
theorem ts71 : tSize Try.prog 71 = some 1 := by kernel_rfl
theorem tz71 : tZero Try.prog 71 = some (.nilFunc) := by kernel_rfl
theorem ta72 : tAgg Try.prog 72 = some false := by kernel_rfl
theorem ts72 : tSize Try.prog 72 = some 1 := by kernel_rfl
theorem tz72 : tZero Try.prog 72 = some (.pointer none) := by kernel_rfl
theorem ta73 : tAgg Try.prog 73 = some false := by kernel_rfl
theorem ts73 : tSize Try.prog 73 = some 1 := by kernel_rfl
theorem tz73 : tZero Try.prog 73 = some (.int .i32 0) := by kernel_rfl
theorem ti73 : tInt Try.prog 73 = some .i32 := by kernel_rfl
theorem ta74 : tAgg Try.prog 74 = some false := by kernel_rfl
theorem ts74 : tSize Try.prog 74 = some 1 := by kernel_rfl
theorem tz74 : tZero Try.prog 74 = some (.int .i32 0) := by kernel_rfl
theorem ti74 : tInt Try.prog 74 = some .i32 := by kernel_rfl
theorem ta75 : tAgg Try.prog 75 = some true := by kernel_rfl
theorem ts75 : tSize Try.prog 75 = some 11 := by kernel_rfl
theorem tz75 : tZero Try.prog 75 = some (.agg #[.int .u64 0, .int .u64 0, .int .u32 0, .int .u8 0, .int .u8 0, .int .u8 0, .int .u8 0, .nilFunc, .pointer none, .int .i32 0, .int .i32 0]) := by kernel_rfl
theorem tf75_0 : tField Try.prog 75 0 = some (0, 12) := by kernel_rfl
theorem tf75_1 : tField Try.prog 75 1 = some (1, 12) := by kernel_rfl
theorem tf75_2 : tField Try.prog 75 2 = some (2, 68) := by kernel_rfl
theorem tf75_3 : tField Try.prog 75 3 = some (3, 69) := by kernel_rfl
theorem tf75_4 : tField Try.prog 75 4 = some (4, 5) := by kernel_rfl
theorem tf75_5 : tField Try.prog 75 5 = some (5, 5) := by kernel_rfl
theorem tf75_6 : tField Try.prog 75 6 = some (6, 70) := by kernel_rfl
theorem tf75_7 : tField Try.prog 75 7 = some (7, 71) := by kernel_rfl
theorem tf75_8 : tField Try.prog 75 8 = some (8, 72) := by kernel_rfl
theorem tf75_9 : tField Try.prog 75 9 = some (9, 73) := by kernel_rfl
theorem tf75_10 : tField Try.prog 75 10 = some (10, 74) := by kernel_rfl
theorem tp75 : tPlaces Try.prog 75 = some [(0, 1), (1, 1), (2, 1), (3, 1), (4, 1), (5, 1), (6, 1), (7, 1), (8, 1), (9, 1), (10, 1)] := by kernel_rfl
theorem ta76 : tAgg Try.prog 76 = some true := by kernel_rfl
theorem ts76 : tSize Try.prog 76 = some 11 := by kernel_rfl
theorem tz76 : tZero Try.prog 76 = some (.agg #[.int .u64 0, .int .u64 0, .int .u32 0, .int .u8 0, .int .u8 0, .int .u8 0, .int .u8 0, .nilFunc, .pointer none, .int .i32 0, .int .i32 0]) := by kernel_rfl
theorem ta77 : tAgg Try.prog 77 = some false := by kernel_rfl
theorem ts77 : tSize Try.prog 77 = some 1 := by kernel_rfl
theorem tz77 : tZero Try.prog 77 = some (.pointer none) := by kernel_rfl

end Go.Proofs.Ytbkhkbfjfblbjaa
