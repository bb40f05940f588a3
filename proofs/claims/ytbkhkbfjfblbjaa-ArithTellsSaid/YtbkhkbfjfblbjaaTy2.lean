/- Closed facts on the types of the program, for the second executor. No conditions. -/
import Derived.Test.YtbkhkbfjfblbjaaSyA
import Derived.Test.YtbkhkbfjfblbjaaRows
import Derived.KernelRfl
namespace Go.Proofs.Ytbkhkbfjfblbjaa
open Go Go.Sy

theorem ya0 : tAgg Try.prog 0 = some false := by kernel_rfl
theorem ys0 : tSize Try.prog 0 = some 1 := by kernel_rfl
theorem yby0 : tBytes Try.prog 0 = some 0 := by kernel_rfl
theorem ya1 : tAgg Try.prog 1 = some false := by kernel_rfl
theorem ys1 : tSize Try.prog 1 = some 1 := by kernel_rfl
theorem yby1 : tBytes Try.prog 1 = some 8 := by kernel_rfl
theorem yz1 : tZero Try.prog 1 = some (.nilFunc) := by kernel_rfl
theorem ya2 : tAgg Try.prog 2 = some false := by kernel_rfl
theorem ys2 : tSize Try.prog 2 = some 1 := by kernel_rfl
theorem yby2 : tBytes Try.prog 2 = some 8 := by kernel_rfl
theorem yz2 : tZero Try.prog 2 = some (.int .i64 0) := by kernel_rfl
theorem yi2 : tInt Try.prog 2 = some .i64 := by kernel_rfl
theorem ya3 : tAgg Try.prog 3 = some false := by kernel_rfl
theorem ys3 : tSize Try.prog 3 = some 1 := by kernel_rfl
theorem yby3 : tBytes Try.prog 3 = some 8 := by kernel_rfl
theorem yz3 : tZero Try.prog 3 = some (.int .i64 0) := by kernel_rfl
theorem yi3 : tInt Try.prog 3 = some .i64 := by kernel_rfl
theorem ya4 : tAgg Try.prog 4 = some false := by kernel_rfl
theorem ys4 : tSize Try.prog 4 = some 1 := by kernel_rfl
theorem yby4 : tBytes Try.prog 4 = some 1 := by kernel_rfl
theorem yz4 : tZero Try.prog 4 = some (.bool false) := by kernel_rfl
theorem yb4 : Try.prog.underlying 4 = some .bool := by kernel_rfl
theorem ya5 : tAgg Try.prog 5 = some false := by kernel_rfl
theorem ys5 : tSize Try.prog 5 = some 1 := by kernel_rfl
theorem yby5 : tBytes Try.prog 5 = some 1 := by kernel_rfl
theorem yz5 : tZero Try.prog 5 = some (.int .u8 0) := by kernel_rfl
theorem yi5 : tInt Try.prog 5 = some .u8 := by kernel_rfl
theorem ya7 : tAgg Try.prog 7 = some true := by kernel_rfl
theorem ys7 : tSize Try.prog 7 = some 4 := by kernel_rfl
theorem yby7 : tBytes Try.prog 7 = some 24 := by kernel_rfl
theorem yz7 : tZero Try.prog 7 = some (.agg #[.int .i64 0, .int .i64 0, .bool false, .int .u8 0]) := by kernel_rfl
theorem yf7_0 : tField Try.prog 7 0 = some (0, 2) := by kernel_rfl
theorem yf7_1 : tField Try.prog 7 1 = some (1, 3) := by kernel_rfl
theorem yf7_2 : tField Try.prog 7 2 = some (2, 4) := by kernel_rfl
theorem yf7_3 : tField Try.prog 7 3 = some (3, 6) := by kernel_rfl
theorem yp7 : tPlaces Try.prog 7 = some [(0, 1), (1, 1), (2, 1), (3, 1)] := by kernel_rfl
theorem ya9 : tAgg Try.prog 9 = some false := by kernel_rfl
theorem ys9 : tSize Try.prog 9 = some 1 := by kernel_rfl
theorem yby9 : tBytes Try.prog 9 = some 16 := by kernel_rfl
theorem yz9 : tZero Try.prog 9 = some (.string ByteArray.empty) := by kernel_rfl
theorem yst9 : tStr Try.prog 9 = true := by kernel_rfl
theorem ya12 : tAgg Try.prog 12 = some false := by kernel_rfl
theorem ys12 : tSize Try.prog 12 = some 1 := by kernel_rfl
theorem yby12 : tBytes Try.prog 12 = some 8 := by kernel_rfl
theorem yz12 : tZero Try.prog 12 = some (.int .u64 0) := by kernel_rfl
theorem yi12 : tInt Try.prog 12 = some .u64 := by kernel_rfl
theorem ya13 : tAgg Try.prog 13 = some true := by kernel_rfl
theorem ys13 : tSize Try.prog 13 = some 2 := by kernel_rfl
theorem yby13 : tBytes Try.prog 13 = some 24 := by kernel_rfl
theorem yz13 : tZero Try.prog 13 = some (.agg #[.string ByteArray.empty, .int .u64 0]) := by kernel_rfl
theorem yf13_0 : tField Try.prog 13 0 = some (0, 9) := by kernel_rfl
theorem yf13_1 : tField Try.prog 13 1 = some (1, 12) := by kernel_rfl
theorem yp13 : tPlaces Try.prog 13 = some [(0, 1), (1, 1)] := by kernel_rfl
theorem ya15 : tAgg Try.prog 15 = some false := by kernel_rfl
theorem ys15 : tSize Try.prog 15 = some 1 := by kernel_rfl
theorem yby15 : tBytes Try.prog 15 = some 8 := by kernel_rfl
theorem yz15 : tZero Try.prog 15 = some (.pointer none) := by kernel_rfl
theorem ypt15 : tPtr Try.prog 15 = some 63 := by kernel_rfl
theorem ya16 : tAgg Try.prog 16 = some false := by kernel_rfl
theorem ys16 : tSize Try.prog 16 = some 1 := by kernel_rfl
theorem yby16 : tBytes Try.prog 16 = some 8 := by kernel_rfl
theorem yz16 : tZero Try.prog 16 = some (.pointer none) := by kernel_rfl
theorem ypt16 : tPtr Try.prog 16 = some 66 := by kernel_rfl
theorem ya17 : tAgg Try.prog 17 = some false := by kernel_rfl
theorem ys17 : tSize Try.prog 17 = some 1 := by kernel_rfl
theorem yby17 : tBytes Try.prog 17 = some 8 := by kernel_rfl
theorem yz17 : tZero Try.prog 17 = some (.pointer none) := by kernel_rfl
theorem ypt17 : tPtr Try.prog 17 = some 76 := by kernel_rfl
theorem ya18 : tAgg Try.prog 18 = some true := by kernel_rfl
theorem ys18 : tSize Try.prog 18 = some 1 := by kernel_rfl
theorem yby18 : tBytes Try.prog 18 = some 8 := by kernel_rfl
theorem yz18 : tZero Try.prog 18 = some (.agg #[.pointer none]) := by kernel_rfl
theorem yf18_0 : tField Try.prog 18 0 = some (0, 17) := by kernel_rfl
theorem yp18 : tPlaces Try.prog 18 = some [(0, 1)] := by kernel_rfl
theorem ya20 : tAgg Try.prog 20 = some false := by kernel_rfl
theorem ys20 : tSize Try.prog 20 = some 1 := by kernel_rfl
theorem yby20 : tBytes Try.prog 20 = some 16 := by kernel_rfl
theorem yz20 : tZero Try.prog 20 = some (.nilIface) := by kernel_rfl
theorem ya21 : tAgg Try.prog 21 = some false := by kernel_rfl
theorem ys21 : tSize Try.prog 21 = some 1 := by kernel_rfl
theorem yby21 : tBytes Try.prog 21 = some 4 := by kernel_rfl
theorem yz21 : tZero Try.prog 21 = some (.int .i32 0) := by kernel_rfl
theorem yi21 : tInt Try.prog 21 = some .i32 := by kernel_rfl
theorem ya22 : tAgg Try.prog 22 = some true := by kernel_rfl
theorem ys22 : tSize Try.prog 22 = some 3 := by kernel_rfl
theorem yby22 : tBytes Try.prog 22 = some 24 := by kernel_rfl
theorem yz22 : tZero Try.prog 22 = some (.agg #[.bool false, .int .i64 0, .int .i64 0]) := by kernel_rfl
theorem yf22_0 : tField Try.prog 22 0 = some (0, 4) := by kernel_rfl
theorem yf22_1 : tField Try.prog 22 1 = some (1, 2) := by kernel_rfl
theorem yf22_2 : tField Try.prog 22 2 = some (2, 2) := by kernel_rfl
theorem yp22 : tPlaces Try.prog 22 = some [(0, 1), (1, 1), (2, 1)] := by kernel_rfl
theorem ya23 : tAgg Try.prog 23 = some true := by kernel_rfl
theorem ys23 : tSize Try.prog 23 = some 3 := by kernel_rfl
theorem yby23 : tBytes Try.prog 23 = some 24 := by kernel_rfl
theorem yz23 : tZero Try.prog 23 = some (.agg #[.bool false, .int .i64 0, .int .i64 0]) := by kernel_rfl
theorem yf23_0 : tField Try.prog 23 0 = some (0, 4) := by kernel_rfl
theorem yf23_1 : tField Try.prog 23 1 = some (1, 2) := by kernel_rfl
theorem yf23_2 : tField Try.prog 23 2 = some (2, 2) := by kernel_rfl
theorem yp23 : tPlaces Try.prog 23 = some [(0, 1), (1, 1), (2, 1)] := by kernel_rfl
theorem yq23 : tEq Try.prog 23 = some [(0, .b), (1, .i), (2, .i)] := by kernel_rfl
theorem ya24 : tAgg Try.prog 24 = some false := by kernel_rfl
theorem ys24 : tSize Try.prog 24 = some 1 := by kernel_rfl
theorem yby24 : tBytes Try.prog 24 = some 8 := by kernel_rfl
theorem yz24 : tZero Try.prog 24 = some (.int .u64 0) := by kernel_rfl
theorem yi24 : tInt Try.prog 24 = some .u64 := by kernel_rfl
theorem ya25 : tAgg Try.prog 25 = some false := by kernel_rfl
theorem ys25 : tSize Try.prog 25 = some 1 := by kernel_rfl
theorem yby25 : tBytes Try.prog 25 = some 8 := by kernel_rfl
theorem yz25 : tZero Try.prog 25 = some (.nilFunc) := by kernel_rfl
theorem ya26 : tAgg Try.prog 26 = some false := by kernel_rfl
theorem ys26 : tSize Try.prog 26 = some 1 := by kernel_rfl
theorem yby26 : tBytes Try.prog 26 = some 8 := by kernel_rfl
theorem yz26 : tZero Try.prog 26 = some (.nilFunc) := by kernel_rfl
theorem ya27 : tAgg Try.prog 27 = some false := by kernel_rfl
theorem ys27 : tSize Try.prog 27 = some 1 := by kernel_rfl
theorem yby27 : tBytes Try.prog 27 = some 0 := by kernel_rfl
theorem ya28 : tAgg Try.prog 28 = some false := by kernel_rfl
theorem ys28 : tSize Try.prog 28 = some 1 := by kernel_rfl
theorem yby28 : tBytes Try.prog 28 = some 8 := by kernel_rfl
theorem yz28 : tZero Try.prog 28 = some (.nilFunc) := by kernel_rfl
theorem ya29 : tAgg Try.prog 29 = some false := by kernel_rfl
theorem ys29 : tSize Try.prog 29 = some 1 := by kernel_rfl
theorem yby29 : tBytes Try.prog 29 = some 8 := by kernel_rfl
theorem yz29 : tZero Try.prog 29 = some (.nilFunc) := by kernel_rfl
theorem ya30 : tAgg Try.prog 30 = some false := by kernel_rfl
theorem ys30 : tSize Try.prog 30 = some 1 := by kernel_rfl
theorem yby30 : tBytes Try.prog 30 = some 8 := by kernel_rfl
theorem yz30 : tZero Try.prog 30 = some (.nilFunc) := by kernel_rfl
theorem ya31 : tAgg Try.prog 31 = some false := by kernel_rfl
theorem ys31 : tSize Try.prog 31 = some 1 := by kernel_rfl
theorem yby31 : tBytes Try.prog 31 = some 8 := by kernel_rfl
theorem yz31 : tZero Try.prog 31 = some (.nilFunc) := by kernel_rfl
theorem ya32 : tAgg Try.prog 32 = some false := by kernel_rfl
theorem ys32 : tSize Try.prog 32 = some 1 := by kernel_rfl
theorem yby32 : tBytes Try.prog 32 = some 8 := by kernel_rfl
theorem yz32 : tZero Try.prog 32 = some (.nilFunc) := by kernel_rfl
theorem ya33 : tAgg Try.prog 33 = some false := by kernel_rfl
theorem ys33 : tSize Try.prog 33 = some 1 := by kernel_rfl
theorem yby33 : tBytes Try.prog 33 = some 8 := by kernel_rfl
theorem yz33 : tZero Try.prog 33 = some (.nilFunc) := by kernel_rfl
theorem ya34 : tAgg Try.prog 34 = some false := by kernel_rfl
theorem ys34 : tSize Try.prog 34 = some 1 := by kernel_rfl
theorem yby34 : tBytes Try.prog 34 = some 24 := by kernel_rfl
theorem yz34 : tZero Try.prog 34 = some (.slice none 0 0) := by kernel_rfl
theorem ye34 : tElem Try.prog 34 = some 3 := by kernel_rfl
theorem ya35 : tAgg Try.prog 35 = some false := by kernel_rfl
theorem ys35 : tSize Try.prog 35 = some 1 := by kernel_rfl
theorem yby35 : tBytes Try.prog 35 = some 8 := by kernel_rfl
theorem yz35 : tZero Try.prog 35 = some (.nilFunc) := by kernel_rfl
theorem ya36 : tAgg Try.prog 36 = some false := by kernel_rfl
theorem ys36 : tSize Try.prog 36 = some 1 := by kernel_rfl
theorem yby36 : tBytes Try.prog 36 = some 8 := by kernel_rfl
theorem yz36 : tZero Try.prog 36 = some (.nilFunc) := by kernel_rfl
theorem ya37 : tAgg Try.prog 37 = some false := by kernel_rfl
theorem ys37 : tSize Try.prog 37 = some 1 := by kernel_rfl
theorem yby37 : tBytes Try.prog 37 = some 8 := by kernel_rfl
theorem yz37 : tZero Try.prog 37 = some (.nilFunc) := by kernel_rfl
theorem ya38 : tAgg Try.prog 38 = some false := by kernel_rfl
theorem ys38 : tSize Try.prog 38 = some 1 := by kernel_rfl
theorem yby38 : tBytes Try.prog 38 = some 8 := by kernel_rfl
theorem yz38 : tZero Try.prog 38 = some (.nilFunc) := by kernel_rfl
theorem ya39 : tAgg Try.prog 39 = some false := by kernel_rfl
theorem ys39 : tSize Try.prog 39 = some 1 := by kernel_rfl
theorem yby39 : tBytes Try.prog 39 = some 8 := by kernel_rfl
theorem yz39 : tZero Try.prog 39 = some (.nilFunc) := by kernel_rfl
theorem ya40 : tAgg Try.prog 40 = some false := by kernel_rfl
theorem ys40 : tSize Try.prog 40 = some 1 := by kernel_rfl
theorem yby40 : tBytes Try.prog 40 = some 0 := by kernel_rfl
theorem ya41 : tAgg Try.prog 41 = some false := by kernel_rfl
theorem ys41 : tSize Try.prog 41 = some 1 := by kernel_rfl
theorem yby41 : tBytes Try.prog 41 = some 8 := by kernel_rfl
theorem yz41 : tZero Try.prog 41 = some (.nilFunc) := by kernel_rfl
theorem ya42 : tAgg Try.prog 42 = some false := by kernel_rfl
theorem ys42 : tSize Try.prog 42 = some 1 := by kernel_rfl
theorem yby42 : tBytes Try.prog 42 = some 8 := by kernel_rfl
theorem yz42 : tZero Try.prog 42 = some (.nilFunc) := by kernel_rfl
theorem ya43 : tAgg Try.prog 43 = some false := by kernel_rfl
theorem ys43 : tSize Try.prog 43 = some 1 := by kernel_rfl
theorem yby43 : tBytes Try.prog 43 = some 8 := by kernel_rfl
theorem yz43 : tZero Try.prog 43 = some (.nilFunc) := by kernel_rfl
theorem ya44 : tAgg Try.prog 44 = some false := by kernel_rfl
theorem ys44 : tSize Try.prog 44 = some 1 := by kernel_rfl
theorem yby44 : tBytes Try.prog 44 = some 8 := by kernel_rfl
theorem yz44 : tZero Try.prog 44 = some (.nilFunc) := by kernel_rfl
theorem ya45 : tAgg Try.prog 45 = some false := by kernel_rfl
theorem ys45 : tSize Try.prog 45 = some 1 := by kernel_rfl
theorem yby45 : tBytes Try.prog 45 = some 8 := by kernel_rfl
theorem yz45 : tZero Try.prog 45 = some (.nilFunc) := by kernel_rfl
theorem ya46 : tAgg Try.prog 46 = some false := by kernel_rfl
theorem ys46 : tSize Try.prog 46 = some 1 := by kernel_rfl
theorem yby46 : tBytes Try.prog 46 = some 8 := by kernel_rfl
theorem yz46 : tZero Try.prog 46 = some (.nilFunc) := by kernel_rfl
theorem ya47 : tAgg Try.prog 47 = some false := by kernel_rfl
theorem ys47 : tSize Try.prog 47 = some 1 := by kernel_rfl
theorem yby47 : tBytes Try.prog 47 = some 24 := by kernel_rfl
theorem yz47 : tZero Try.prog 47 = some (.slice none 0 0) := by kernel_rfl
theorem ye47 : tElem Try.prog 47 = some 23 := by kernel_rfl
theorem ya48 : tAgg Try.prog 48 = some false := by kernel_rfl
theorem ys48 : tSize Try.prog 48 = some 1 := by kernel_rfl
theorem yby48 : tBytes Try.prog 48 = some 8 := by kernel_rfl
theorem yz48 : tZero Try.prog 48 = some (.nilFunc) := by kernel_rfl
theorem ya49 : tAgg Try.prog 49 = some false := by kernel_rfl
theorem ys49 : tSize Try.prog 49 = some 1 := by kernel_rfl
theorem yby49 : tBytes Try.prog 49 = some 0 := by kernel_rfl
theorem ya50 : tAgg Try.prog 50 = some false := by kernel_rfl
theorem ys50 : tSize Try.prog 50 = some 1 := by kernel_rfl
theorem yby50 : tBytes Try.prog 50 = some 8 := by kernel_rfl
theorem yz50 : tZero Try.prog 50 = some (.nilFunc) := by kernel_rfl
theorem ya51 : tAgg Try.prog 51 = some false := by kernel_rfl
theorem ys51 : tSize Try.prog 51 = some 1 := by kernel_rfl
theorem yby51 : tBytes Try.prog 51 = some 8 := by kernel_rfl
theorem yz51 : tZero Try.prog 51 = some (.nilFunc) := by kernel_rfl
theorem ya52 : tAgg Try.prog 52 = some false := by kernel_rfl
theorem ys52 : tSize Try.prog 52 = some 1 := by kernel_rfl
theorem yby52 : tBytes Try.prog 52 = some 8 := by kernel_rfl
theorem yz52 : tZero Try.prog 52 = some (.nilFunc) := by kernel_rfl
theorem ya53 : tAgg Try.prog 53 = some false := by kernel_rfl
theorem ys53 : tSize Try.prog 53 = some 1 := by kernel_rfl
theorem yby53 : tBytes Try.prog 53 = some 0 := by kernel_rfl
theorem ya54 : tAgg Try.prog 54 = some false := by kernel_rfl
theorem ys54 : tSize Try.prog 54 = some 1 := by kernel_rfl
theorem yby54 : tBytes Try.prog 54 = some 8 := by kernel_rfl
theorem yz54 : tZero Try.prog 54 = some (.nilFunc) := by kernel_rfl
theorem ya55 : tAgg Try.prog 55 = some false := by kernel_rfl
theorem ys55 : tSize Try.prog 55 = some 1 := by kernel_rfl
theorem yby55 : tBytes Try.prog 55 = some 8 := by kernel_rfl
theorem yz55 : tZero Try.prog 55 = some (.nilFunc) := by kernel_rfl
theorem ya56 : tAgg Try.prog 56 = some false := by kernel_rfl
theorem ys56 : tSize Try.prog 56 = some 1 := by kernel_rfl
theorem yby56 : tBytes Try.prog 56 = some 8 := by kernel_rfl
theorem yz56 : tZero Try.prog 56 = some (.nilFunc) := by kernel_rfl
theorem ya57 : tAgg Try.prog 57 = some false := by kernel_rfl
theorem ys57 : tSize Try.prog 57 = some 1 := by kernel_rfl
theorem yby57 : tBytes Try.prog 57 = some 8 := by kernel_rfl
theorem yz57 : tZero Try.prog 57 = some (.nilFunc) := by kernel_rfl
theorem ya58 : tAgg Try.prog 58 = some false := by kernel_rfl
theorem ys58 : tSize Try.prog 58 = some 1 := by kernel_rfl
theorem yby58 : tBytes Try.prog 58 = some 8 := by kernel_rfl
theorem yz58 : tZero Try.prog 58 = some (.nilFunc) := by kernel_rfl
theorem ya59 : tAgg Try.prog 59 = some false := by kernel_rfl
theorem ys59 : tSize Try.prog 59 = some 1 := by kernel_rfl
theorem yby59 : tBytes Try.prog 59 = some 8 := by kernel_rfl
theorem yz59 : tZero Try.prog 59 = some (.nilFunc) := by kernel_rfl
theorem ya60 : tAgg Try.prog 60 = some false := by kernel_rfl
theorem ys60 : tSize Try.prog 60 = some 1 := by kernel_rfl
theorem yby60 : tBytes Try.prog 60 = some 24 := by kernel_rfl
theorem yz60 : tZero Try.prog 60 = some (.slice none 0 0) := by kernel_rfl
theorem ye60 : tElem Try.prog 60 = some 2 := by kernel_rfl
theorem ya61 : tAgg Try.prog 61 = some false := by kernel_rfl
theorem ys61 : tSize Try.prog 61 = some 1 := by kernel_rfl
theorem yby61 : tBytes Try.prog 61 = some 8 := by kernel_rfl
theorem yz61 : tZero Try.prog 61 = some (.nilFunc) := by kernel_rfl
theorem ya62 : tAgg Try.prog 62 = some true := by kernel_rfl
theorem ys62 : tSize Try.prog 62 = some 4 := by kernel_rfl
theorem yby62 : tBytes Try.prog 62 = some 40 := by kernel_rfl
theorem yz62 : tZero Try.prog 62 = some (.agg #[.pointer none, .pointer none, .pointer none, .string ByteArray.empty]) := by kernel_rfl
theorem yf62_0 : tField Try.prog 62 0 = some (0, 17) := by kernel_rfl
theorem yf62_1 : tField Try.prog 62 1 = some (1, 17) := by kernel_rfl
theorem yf62_2 : tField Try.prog 62 2 = some (2, 17) := by kernel_rfl
theorem yf62_3 : tField Try.prog 62 3 = some (3, 9) := by kernel_rfl
theorem yp62 : tPlaces Try.prog 62 = some [(0, 1), (1, 1), (2, 1), (3, 1)] := by kernel_rfl
theorem ya64 : tAgg Try.prog 64 = some true := by kernel_rfl
theorem ys64 : tSize Try.prog 64 = some 0 := by kernel_rfl
theorem yby64 : tBytes Try.prog 64 = some 0 := by kernel_rfl
theorem yz64 : tZero Try.prog 64 = some (.agg #[]) := by kernel_rfl
theorem yar64 : tArr Try.prog 64 = some (0, 16) := by kernel_rfl
theorem ya65 : tAgg Try.prog 65 = some true := by kernel_rfl
theorem ys65 : tSize Try.prog 65 = some 0 := by kernel_rfl
theorem yby65 : tBytes Try.prog 65 = some 0 := by kernel_rfl
theorem yz65 : tZero Try.prog 65 = some (.agg #[]) := by kernel_rfl
theorem yf65_0 : tField Try.prog 65 0 = some (0, 64) := by kernel_rfl
theorem yp65 : tPlaces Try.prog 65 = some [(0, 0)] := by kernel_rfl
theorem ya67 : tAgg Try.prog 67 = some false := by kernel_rfl
theorem ys67 : tSize Try.prog 67 = some 1 := by kernel_rfl
theorem yby67 : tBytes Try.prog 67 = some 8 := by kernel_rfl
theorem yz67 : tZero Try.prog 67 = some (.nilFunc) := by kernel_rfl
theorem ya68 : tAgg Try.prog 68 = some false := by kernel_rfl
theorem ys68 : tSize Try.prog 68 = some 1 := by kernel_rfl
theorem yby68 : tBytes Try.prog 68 = some 4 := by kernel_rfl
theorem yz68 : tZero Try.prog 68 = some (.int .u32 0) := by kernel_rfl
theorem yi68 : tInt Try.prog 68 = some .u32 := by kernel_rfl
theorem ya71 : tAgg Try.prog 71 = some false := by kernel_rfl
theorem ys71 : tSize Try.prog 71 = some 1 := by kernel_rfl
theorem yby71 : tBytes Try.prog 71 = some 8 := by kernel_rfl
theorem yz71 : tZero Try.prog 71 = some (.nilFunc) := by kernel_rfl
theorem ya72 : tAgg Try.prog 72 = some false := by kernel_rfl
theorem ys72 : tSize Try.prog 72 = some 1 := by kernel_rfl
theorem yby72 : tBytes Try.prog 72 = some 8 := by kernel_rfl
theorem yz72 : tZero Try.prog 72 = some (.pointer none) := by kernel_rfl
theorem ypt72 : tPtr Try.prog 72 = some 5 := by kernel_rfl
theorem ya75 : tAgg Try.prog 75 = some true := by kernel_rfl
theorem ys75 : tSize Try.prog 75 = some 11 := by kernel_rfl
theorem yby75 : tBytes Try.prog 75 = some 48 := by kernel_rfl
theorem yz75 : tZero Try.prog 75 = some (.agg #[.int .u64 0, .int .u64 0, .int .u32 0, .int .u8 0, .int .u8 0, .int .u8 0, .int .u8 0, .nilFunc, .pointer none, .int .i32 0, .int .i32 0]) := by kernel_rfl
theorem yf75_0 : tField Try.prog 75 0 = some (0, 12) := by kernel_rfl
theorem yf75_1 : tField Try.prog 75 1 = some (1, 12) := by kernel_rfl
theorem yf75_2 : tField Try.prog 75 2 = some (2, 68) := by kernel_rfl
theorem yf75_3 : tField Try.prog 75 3 = some (3, 69) := by kernel_rfl
theorem yf75_4 : tField Try.prog 75 4 = some (4, 5) := by kernel_rfl
theorem yf75_5 : tField Try.prog 75 5 = some (5, 5) := by kernel_rfl
theorem yf75_6 : tField Try.prog 75 6 = some (6, 70) := by kernel_rfl
theorem yf75_7 : tField Try.prog 75 7 = some (7, 71) := by kernel_rfl
theorem yf75_8 : tField Try.prog 75 8 = some (8, 72) := by kernel_rfl
theorem yf75_9 : tField Try.prog 75 9 = some (9, 73) := by kernel_rfl
theorem yf75_10 : tField Try.prog 75 10 = some (10, 74) := by kernel_rfl
theorem yp75 : tPlaces Try.prog 75 = some [(0, 1), (1, 1), (2, 1), (3, 1), (4, 1), (5, 1), (6, 1), (7, 1), (8, 1), (9, 1), (10, 1)] := by kernel_rfl
theorem ya77 : tAgg Try.prog 77 = some false := by kernel_rfl
theorem ys77 : tSize Try.prog 77 = some 1 := by kernel_rfl
theorem yby77 : tBytes Try.prog 77 = some 8 := by kernel_rfl
theorem yz77 : tZero Try.prog 77 = some (.pointer none) := by kernel_rfl

end Go.Proofs.Ytbkhkbfjfblbjaa
