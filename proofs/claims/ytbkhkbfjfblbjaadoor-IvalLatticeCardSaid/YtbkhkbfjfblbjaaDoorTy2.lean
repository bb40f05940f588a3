/- Closed facts on the types of the program, for the second executor. No conditions. -/
import Derived.Test.YtbkhkbfjfblbjaaDoorSyA
import Derived.Test.YtbkhkbfjfblbjaaDoorRows
import Derived.KernelRfl
namespace Go.Proofs.YtbkhkbfjfblbjaaDoor
open Go Go.Sy

theorem ya0 : tAgg Tryd.prog 0 = some false := by kernel_rfl
theorem ys0 : tSize Tryd.prog 0 = some 1 := by kernel_rfl
theorem yby0 : tBytes Tryd.prog 0 = some 0 := by kernel_rfl
theorem ya1 : tAgg Tryd.prog 1 = some false := by kernel_rfl
theorem ys1 : tSize Tryd.prog 1 = some 1 := by kernel_rfl
theorem yby1 : tBytes Tryd.prog 1 = some 8 := by kernel_rfl
theorem yz1 : tZero Tryd.prog 1 = some (.nilFunc) := by kernel_rfl
theorem ya2 : tAgg Tryd.prog 2 = some false := by kernel_rfl
theorem ys2 : tSize Tryd.prog 2 = some 1 := by kernel_rfl
theorem yby2 : tBytes Tryd.prog 2 = some 8 := by kernel_rfl
theorem yz2 : tZero Tryd.prog 2 = some (.int .i64 0) := by kernel_rfl
theorem yi2 : tInt Tryd.prog 2 = some .i64 := by kernel_rfl
theorem ya3 : tAgg Tryd.prog 3 = some false := by kernel_rfl
theorem ys3 : tSize Tryd.prog 3 = some 1 := by kernel_rfl
theorem yby3 : tBytes Tryd.prog 3 = some 8 := by kernel_rfl
theorem yz3 : tZero Tryd.prog 3 = some (.int .i64 0) := by kernel_rfl
theorem yi3 : tInt Tryd.prog 3 = some .i64 := by kernel_rfl
theorem ya4 : tAgg Tryd.prog 4 = some false := by kernel_rfl
theorem ys4 : tSize Tryd.prog 4 = some 1 := by kernel_rfl
theorem yby4 : tBytes Tryd.prog 4 = some 1 := by kernel_rfl
theorem yz4 : tZero Tryd.prog 4 = some (.bool false) := by kernel_rfl
theorem yb4 : Tryd.prog.underlying 4 = some .bool := by kernel_rfl
theorem ya5 : tAgg Tryd.prog 5 = some false := by kernel_rfl
theorem ys5 : tSize Tryd.prog 5 = some 1 := by kernel_rfl
theorem yby5 : tBytes Tryd.prog 5 = some 1 := by kernel_rfl
theorem yz5 : tZero Tryd.prog 5 = some (.int .u8 0) := by kernel_rfl
theorem yi5 : tInt Tryd.prog 5 = some .u8 := by kernel_rfl
theorem ya7 : tAgg Tryd.prog 7 = some true := by kernel_rfl
theorem ys7 : tSize Tryd.prog 7 = some 4 := by kernel_rfl
theorem yby7 : tBytes Tryd.prog 7 = some 24 := by kernel_rfl
theorem yz7 : tZero Tryd.prog 7 = some (.agg #[.int .i64 0, .int .i64 0, .bool false, .int .u8 0]) := by kernel_rfl
theorem yf7_0 : tField Tryd.prog 7 0 = some (0, 2) := by kernel_rfl
theorem yf7_1 : tField Tryd.prog 7 1 = some (1, 3) := by kernel_rfl
theorem yf7_2 : tField Tryd.prog 7 2 = some (2, 4) := by kernel_rfl
theorem yf7_3 : tField Tryd.prog 7 3 = some (3, 6) := by kernel_rfl
theorem yp7 : tPlaces Tryd.prog 7 = some [(0, 1), (1, 1), (2, 1), (3, 1)] := by kernel_rfl
theorem ya9 : tAgg Tryd.prog 9 = some false := by kernel_rfl
theorem ys9 : tSize Tryd.prog 9 = some 1 := by kernel_rfl
theorem yby9 : tBytes Tryd.prog 9 = some 16 := by kernel_rfl
theorem yz9 : tZero Tryd.prog 9 = some (.string ByteArray.empty) := by kernel_rfl
theorem yst9 : tStr Tryd.prog 9 = true := by kernel_rfl
theorem ya12 : tAgg Tryd.prog 12 = some false := by kernel_rfl
theorem ys12 : tSize Tryd.prog 12 = some 1 := by kernel_rfl
theorem yby12 : tBytes Tryd.prog 12 = some 8 := by kernel_rfl
theorem yz12 : tZero Tryd.prog 12 = some (.int .u64 0) := by kernel_rfl
theorem yi12 : tInt Tryd.prog 12 = some .u64 := by kernel_rfl
theorem ya13 : tAgg Tryd.prog 13 = some true := by kernel_rfl
theorem ys13 : tSize Tryd.prog 13 = some 2 := by kernel_rfl
theorem yby13 : tBytes Tryd.prog 13 = some 24 := by kernel_rfl
theorem yz13 : tZero Tryd.prog 13 = some (.agg #[.string ByteArray.empty, .int .u64 0]) := by kernel_rfl
theorem yf13_0 : tField Tryd.prog 13 0 = some (0, 9) := by kernel_rfl
theorem yf13_1 : tField Tryd.prog 13 1 = some (1, 12) := by kernel_rfl
theorem yp13 : tPlaces Tryd.prog 13 = some [(0, 1), (1, 1)] := by kernel_rfl
theorem ya15 : tAgg Tryd.prog 15 = some false := by kernel_rfl
theorem ys15 : tSize Tryd.prog 15 = some 1 := by kernel_rfl
theorem yby15 : tBytes Tryd.prog 15 = some 8 := by kernel_rfl
theorem yz15 : tZero Tryd.prog 15 = some (.pointer none) := by kernel_rfl
theorem ypt15 : tPtr Tryd.prog 15 = some 65 := by kernel_rfl
theorem ya16 : tAgg Tryd.prog 16 = some false := by kernel_rfl
theorem ys16 : tSize Tryd.prog 16 = some 1 := by kernel_rfl
theorem yby16 : tBytes Tryd.prog 16 = some 8 := by kernel_rfl
theorem yz16 : tZero Tryd.prog 16 = some (.pointer none) := by kernel_rfl
theorem ypt16 : tPtr Tryd.prog 16 = some 68 := by kernel_rfl
theorem ya17 : tAgg Tryd.prog 17 = some false := by kernel_rfl
theorem ys17 : tSize Tryd.prog 17 = some 1 := by kernel_rfl
theorem yby17 : tBytes Tryd.prog 17 = some 8 := by kernel_rfl
theorem yz17 : tZero Tryd.prog 17 = some (.pointer none) := by kernel_rfl
theorem ypt17 : tPtr Tryd.prog 17 = some 77 := by kernel_rfl
theorem ya18 : tAgg Tryd.prog 18 = some true := by kernel_rfl
theorem ys18 : tSize Tryd.prog 18 = some 1 := by kernel_rfl
theorem yby18 : tBytes Tryd.prog 18 = some 8 := by kernel_rfl
theorem yz18 : tZero Tryd.prog 18 = some (.agg #[.pointer none]) := by kernel_rfl
theorem yf18_0 : tField Tryd.prog 18 0 = some (0, 17) := by kernel_rfl
theorem yp18 : tPlaces Tryd.prog 18 = some [(0, 1)] := by kernel_rfl
theorem ya20 : tAgg Tryd.prog 20 = some false := by kernel_rfl
theorem ys20 : tSize Tryd.prog 20 = some 1 := by kernel_rfl
theorem yby20 : tBytes Tryd.prog 20 = some 16 := by kernel_rfl
theorem yz20 : tZero Tryd.prog 20 = some (.nilIface) := by kernel_rfl
theorem ya21 : tAgg Tryd.prog 21 = some false := by kernel_rfl
theorem ys21 : tSize Tryd.prog 21 = some 1 := by kernel_rfl
theorem yby21 : tBytes Tryd.prog 21 = some 4 := by kernel_rfl
theorem yz21 : tZero Tryd.prog 21 = some (.int .i32 0) := by kernel_rfl
theorem yi21 : tInt Tryd.prog 21 = some .i32 := by kernel_rfl
theorem ya22 : tAgg Tryd.prog 22 = some false := by kernel_rfl
theorem ys22 : tSize Tryd.prog 22 = some 1 := by kernel_rfl
theorem yby22 : tBytes Tryd.prog 22 = some 24 := by kernel_rfl
theorem yz22 : tZero Tryd.prog 22 = some (.slice none 0 0) := by kernel_rfl
theorem ye22 : tElem Tryd.prog 22 = some 25 := by kernel_rfl
theorem ya23 : tAgg Tryd.prog 23 = some false := by kernel_rfl
theorem ys23 : tSize Tryd.prog 23 = some 1 := by kernel_rfl
theorem yby23 : tBytes Tryd.prog 23 = some 8 := by kernel_rfl
theorem yz23 : tZero Tryd.prog 23 = some (.nilFunc) := by kernel_rfl
theorem ya24 : tAgg Tryd.prog 24 = some true := by kernel_rfl
theorem ys24 : tSize Tryd.prog 24 = some 3 := by kernel_rfl
theorem yby24 : tBytes Tryd.prog 24 = some 24 := by kernel_rfl
theorem yz24 : tZero Tryd.prog 24 = some (.agg #[.bool false, .int .i64 0, .int .i64 0]) := by kernel_rfl
theorem yf24_0 : tField Tryd.prog 24 0 = some (0, 4) := by kernel_rfl
theorem yf24_1 : tField Tryd.prog 24 1 = some (1, 2) := by kernel_rfl
theorem yf24_2 : tField Tryd.prog 24 2 = some (2, 2) := by kernel_rfl
theorem yp24 : tPlaces Tryd.prog 24 = some [(0, 1), (1, 1), (2, 1)] := by kernel_rfl
theorem ya25 : tAgg Tryd.prog 25 = some true := by kernel_rfl
theorem ys25 : tSize Tryd.prog 25 = some 3 := by kernel_rfl
theorem yby25 : tBytes Tryd.prog 25 = some 24 := by kernel_rfl
theorem yz25 : tZero Tryd.prog 25 = some (.agg #[.bool false, .int .i64 0, .int .i64 0]) := by kernel_rfl
theorem yf25_0 : tField Tryd.prog 25 0 = some (0, 4) := by kernel_rfl
theorem yf25_1 : tField Tryd.prog 25 1 = some (1, 2) := by kernel_rfl
theorem yf25_2 : tField Tryd.prog 25 2 = some (2, 2) := by kernel_rfl
theorem yp25 : tPlaces Tryd.prog 25 = some [(0, 1), (1, 1), (2, 1)] := by kernel_rfl
theorem yq25 : tEq Tryd.prog 25 = some [(0, .b), (1, .i), (2, .i)] := by kernel_rfl
theorem ya26 : tAgg Tryd.prog 26 = some false := by kernel_rfl
theorem ys26 : tSize Tryd.prog 26 = some 1 := by kernel_rfl
theorem yby26 : tBytes Tryd.prog 26 = some 8 := by kernel_rfl
theorem yz26 : tZero Tryd.prog 26 = some (.nilFunc) := by kernel_rfl
theorem ya27 : tAgg Tryd.prog 27 = some false := by kernel_rfl
theorem ys27 : tSize Tryd.prog 27 = some 1 := by kernel_rfl
theorem yby27 : tBytes Tryd.prog 27 = some 8 := by kernel_rfl
theorem yz27 : tZero Tryd.prog 27 = some (.nilFunc) := by kernel_rfl
theorem ya28 : tAgg Tryd.prog 28 = some false := by kernel_rfl
theorem ys28 : tSize Tryd.prog 28 = some 1 := by kernel_rfl
theorem yby28 : tBytes Tryd.prog 28 = some 8 := by kernel_rfl
theorem yz28 : tZero Tryd.prog 28 = some (.nilFunc) := by kernel_rfl
theorem ya29 : tAgg Tryd.prog 29 = some false := by kernel_rfl
theorem ys29 : tSize Tryd.prog 29 = some 1 := by kernel_rfl
theorem yby29 : tBytes Tryd.prog 29 = some 8 := by kernel_rfl
theorem yz29 : tZero Tryd.prog 29 = some (.nilFunc) := by kernel_rfl
theorem ya30 : tAgg Tryd.prog 30 = some false := by kernel_rfl
theorem ys30 : tSize Tryd.prog 30 = some 1 := by kernel_rfl
theorem yby30 : tBytes Tryd.prog 30 = some 8 := by kernel_rfl
theorem yz30 : tZero Tryd.prog 30 = some (.nilFunc) := by kernel_rfl
theorem ya31 : tAgg Tryd.prog 31 = some false := by kernel_rfl
theorem ys31 : tSize Tryd.prog 31 = some 1 := by kernel_rfl
theorem yby31 : tBytes Tryd.prog 31 = some 8 := by kernel_rfl
theorem yz31 : tZero Tryd.prog 31 = some (.nilFunc) := by kernel_rfl
theorem ya32 : tAgg Tryd.prog 32 = some false := by kernel_rfl
theorem ys32 : tSize Tryd.prog 32 = some 1 := by kernel_rfl
theorem yby32 : tBytes Tryd.prog 32 = some 8 := by kernel_rfl
theorem yz32 : tZero Tryd.prog 32 = some (.nilFunc) := by kernel_rfl
theorem ya33 : tAgg Tryd.prog 33 = some false := by kernel_rfl
theorem ys33 : tSize Tryd.prog 33 = some 1 := by kernel_rfl
theorem yby33 : tBytes Tryd.prog 33 = some 8 := by kernel_rfl
theorem yz33 : tZero Tryd.prog 33 = some (.nilFunc) := by kernel_rfl
theorem ya34 : tAgg Tryd.prog 34 = some false := by kernel_rfl
theorem ys34 : tSize Tryd.prog 34 = some 1 := by kernel_rfl
theorem yby34 : tBytes Tryd.prog 34 = some 8 := by kernel_rfl
theorem yz34 : tZero Tryd.prog 34 = some (.nilFunc) := by kernel_rfl
theorem ya35 : tAgg Tryd.prog 35 = some false := by kernel_rfl
theorem ys35 : tSize Tryd.prog 35 = some 1 := by kernel_rfl
theorem yby35 : tBytes Tryd.prog 35 = some 8 := by kernel_rfl
theorem yz35 : tZero Tryd.prog 35 = some (.nilFunc) := by kernel_rfl
theorem ya36 : tAgg Tryd.prog 36 = some false := by kernel_rfl
theorem ys36 : tSize Tryd.prog 36 = some 1 := by kernel_rfl
theorem yby36 : tBytes Tryd.prog 36 = some 8 := by kernel_rfl
theorem yz36 : tZero Tryd.prog 36 = some (.nilFunc) := by kernel_rfl
theorem ya37 : tAgg Tryd.prog 37 = some false := by kernel_rfl
theorem ys37 : tSize Tryd.prog 37 = some 1 := by kernel_rfl
theorem yby37 : tBytes Tryd.prog 37 = some 8 := by kernel_rfl
theorem yz37 : tZero Tryd.prog 37 = some (.nilFunc) := by kernel_rfl
theorem ya38 : tAgg Tryd.prog 38 = some false := by kernel_rfl
theorem ys38 : tSize Tryd.prog 38 = some 1 := by kernel_rfl
theorem yby38 : tBytes Tryd.prog 38 = some 8 := by kernel_rfl
theorem yz38 : tZero Tryd.prog 38 = some (.nilFunc) := by kernel_rfl
theorem ya39 : tAgg Tryd.prog 39 = some false := by kernel_rfl
theorem ys39 : tSize Tryd.prog 39 = some 1 := by kernel_rfl
theorem yby39 : tBytes Tryd.prog 39 = some 8 := by kernel_rfl
theorem yz39 : tZero Tryd.prog 39 = some (.nilFunc) := by kernel_rfl
theorem ya40 : tAgg Tryd.prog 40 = some false := by kernel_rfl
theorem ys40 : tSize Tryd.prog 40 = some 1 := by kernel_rfl
theorem yby40 : tBytes Tryd.prog 40 = some 8 := by kernel_rfl
theorem yz40 : tZero Tryd.prog 40 = some (.nilFunc) := by kernel_rfl
theorem ya41 : tAgg Tryd.prog 41 = some false := by kernel_rfl
theorem ys41 : tSize Tryd.prog 41 = some 1 := by kernel_rfl
theorem yby41 : tBytes Tryd.prog 41 = some 8 := by kernel_rfl
theorem yz41 : tZero Tryd.prog 41 = some (.nilFunc) := by kernel_rfl
theorem ya42 : tAgg Tryd.prog 42 = some false := by kernel_rfl
theorem ys42 : tSize Tryd.prog 42 = some 1 := by kernel_rfl
theorem yby42 : tBytes Tryd.prog 42 = some 8 := by kernel_rfl
theorem yz42 : tZero Tryd.prog 42 = some (.nilFunc) := by kernel_rfl
theorem ya43 : tAgg Tryd.prog 43 = some false := by kernel_rfl
theorem ys43 : tSize Tryd.prog 43 = some 1 := by kernel_rfl
theorem yby43 : tBytes Tryd.prog 43 = some 8 := by kernel_rfl
theorem yz43 : tZero Tryd.prog 43 = some (.nilFunc) := by kernel_rfl
theorem ya44 : tAgg Tryd.prog 44 = some false := by kernel_rfl
theorem ys44 : tSize Tryd.prog 44 = some 1 := by kernel_rfl
theorem yby44 : tBytes Tryd.prog 44 = some 8 := by kernel_rfl
theorem yz44 : tZero Tryd.prog 44 = some (.nilFunc) := by kernel_rfl
theorem ya45 : tAgg Tryd.prog 45 = some true := by kernel_rfl
theorem ys45 : tSize Tryd.prog 45 = some 24 := by kernel_rfl
theorem yby45 : tBytes Tryd.prog 45 = some 24 := by kernel_rfl
theorem yz45 : tZero Tryd.prog 45 = some (.agg #[.int .u8 0, .int .u8 0, .int .u8 0, .int .u8 0, .int .u8 0, .int .u8 0, .int .u8 0, .int .u8 0, .int .u8 0, .int .u8 0, .int .u8 0, .int .u8 0, .int .u8 0, .int .u8 0, .int .u8 0, .int .u8 0, .int .u8 0, .int .u8 0, .int .u8 0, .int .u8 0, .int .u8 0, .int .u8 0, .int .u8 0, .int .u8 0]) := by kernel_rfl
theorem yar45 : tArr Tryd.prog 45 = some (24, 5) := by kernel_rfl
theorem ya46 : tAgg Tryd.prog 46 = some false := by kernel_rfl
theorem ys46 : tSize Tryd.prog 46 = some 1 := by kernel_rfl
theorem yby46 : tBytes Tryd.prog 46 = some 8 := by kernel_rfl
theorem yz46 : tZero Tryd.prog 46 = some (.int .u64 0) := by kernel_rfl
theorem yi46 : tInt Tryd.prog 46 = some .u64 := by kernel_rfl
theorem ya47 : tAgg Tryd.prog 47 = some false := by kernel_rfl
theorem ys47 : tSize Tryd.prog 47 = some 1 := by kernel_rfl
theorem yby47 : tBytes Tryd.prog 47 = some 8 := by kernel_rfl
theorem yz47 : tZero Tryd.prog 47 = some (.nilFunc) := by kernel_rfl
theorem ya48 : tAgg Tryd.prog 48 = some false := by kernel_rfl
theorem ys48 : tSize Tryd.prog 48 = some 1 := by kernel_rfl
theorem yby48 : tBytes Tryd.prog 48 = some 8 := by kernel_rfl
theorem yz48 : tZero Tryd.prog 48 = some (.nilFunc) := by kernel_rfl
theorem ya49 : tAgg Tryd.prog 49 = some false := by kernel_rfl
theorem ys49 : tSize Tryd.prog 49 = some 1 := by kernel_rfl
theorem yby49 : tBytes Tryd.prog 49 = some 24 := by kernel_rfl
theorem yz49 : tZero Tryd.prog 49 = some (.slice none 0 0) := by kernel_rfl
theorem ye49 : tElem Tryd.prog 49 = some 5 := by kernel_rfl
theorem ya50 : tAgg Tryd.prog 50 = some false := by kernel_rfl
theorem ys50 : tSize Tryd.prog 50 = some 1 := by kernel_rfl
theorem yby50 : tBytes Tryd.prog 50 = some 0 := by kernel_rfl
theorem ya51 : tAgg Tryd.prog 51 = some false := by kernel_rfl
theorem ys51 : tSize Tryd.prog 51 = some 1 := by kernel_rfl
theorem yby51 : tBytes Tryd.prog 51 = some 8 := by kernel_rfl
theorem yz51 : tZero Tryd.prog 51 = some (.nilFunc) := by kernel_rfl
theorem ya52 : tAgg Tryd.prog 52 = some false := by kernel_rfl
theorem ys52 : tSize Tryd.prog 52 = some 1 := by kernel_rfl
theorem yby52 : tBytes Tryd.prog 52 = some 8 := by kernel_rfl
theorem yz52 : tZero Tryd.prog 52 = some (.nilFunc) := by kernel_rfl
theorem ya53 : tAgg Tryd.prog 53 = some false := by kernel_rfl
theorem ys53 : tSize Tryd.prog 53 = some 1 := by kernel_rfl
theorem yby53 : tBytes Tryd.prog 53 = some 8 := by kernel_rfl
theorem yz53 : tZero Tryd.prog 53 = some (.nilFunc) := by kernel_rfl
theorem ya54 : tAgg Tryd.prog 54 = some true := by kernel_rfl
theorem ys54 : tSize Tryd.prog 54 = some 20 := by kernel_rfl
theorem yby54 : tBytes Tryd.prog 54 = some 160 := by kernel_rfl
theorem yz54 : tZero Tryd.prog 54 = some (.agg #[.int .u64 0, .int .u64 0, .int .u64 0, .int .u64 0, .int .u64 0, .int .u64 0, .int .u64 0, .int .u64 0, .int .u64 0, .int .u64 0, .int .u64 0, .int .u64 0, .int .u64 0, .int .u64 0, .int .u64 0, .int .u64 0, .int .u64 0, .int .u64 0, .int .u64 0, .int .u64 0]) := by kernel_rfl
theorem yar54 : tArr Tryd.prog 54 = some (20, 46) := by kernel_rfl
theorem ya55 : tAgg Tryd.prog 55 = some false := by kernel_rfl
theorem ys55 : tSize Tryd.prog 55 = some 1 := by kernel_rfl
theorem yby55 : tBytes Tryd.prog 55 = some 4 := by kernel_rfl
theorem yz55 : tZero Tryd.prog 55 = some (.int .u32 0) := by kernel_rfl
theorem yi55 : tInt Tryd.prog 55 = some .u32 := by kernel_rfl
theorem ya57 : tAgg Tryd.prog 57 = some false := by kernel_rfl
theorem ys57 : tSize Tryd.prog 57 = some 1 := by kernel_rfl
theorem yby57 : tBytes Tryd.prog 57 = some 8 := by kernel_rfl
theorem yz57 : tZero Tryd.prog 57 = some (.nilFunc) := by kernel_rfl
theorem ya58 : tAgg Tryd.prog 58 = some false := by kernel_rfl
theorem ys58 : tSize Tryd.prog 58 = some 1 := by kernel_rfl
theorem yby58 : tBytes Tryd.prog 58 = some 8 := by kernel_rfl
theorem yz58 : tZero Tryd.prog 58 = some (.int .u64 0) := by kernel_rfl
theorem yi58 : tInt Tryd.prog 58 = some .u64 := by kernel_rfl
theorem ya59 : tAgg Tryd.prog 59 = some false := by kernel_rfl
theorem ys59 : tSize Tryd.prog 59 = some 1 := by kernel_rfl
theorem yby59 : tBytes Tryd.prog 59 = some 8 := by kernel_rfl
theorem yz59 : tZero Tryd.prog 59 = some (.nilFunc) := by kernel_rfl
theorem ya60 : tAgg Tryd.prog 60 = some false := by kernel_rfl
theorem ys60 : tSize Tryd.prog 60 = some 1 := by kernel_rfl
theorem yby60 : tBytes Tryd.prog 60 = some 8 := by kernel_rfl
theorem yz60 : tZero Tryd.prog 60 = some (.nilFunc) := by kernel_rfl
theorem ya61 : tAgg Tryd.prog 61 = some true := by kernel_rfl
theorem ys61 : tSize Tryd.prog 61 = some 32 := by kernel_rfl
theorem yby61 : tBytes Tryd.prog 61 = some 32 := by kernel_rfl
theorem yz61 : tZero Tryd.prog 61 = some (.agg #[.int .u8 0, .int .u8 0, .int .u8 0, .int .u8 0, .int .u8 0, .int .u8 0, .int .u8 0, .int .u8 0, .int .u8 0, .int .u8 0, .int .u8 0, .int .u8 0, .int .u8 0, .int .u8 0, .int .u8 0, .int .u8 0, .int .u8 0, .int .u8 0, .int .u8 0, .int .u8 0, .int .u8 0, .int .u8 0, .int .u8 0, .int .u8 0, .int .u8 0, .int .u8 0, .int .u8 0, .int .u8 0, .int .u8 0, .int .u8 0, .int .u8 0, .int .u8 0]) := by kernel_rfl
theorem yar61 : tArr Tryd.prog 61 = some (32, 5) := by kernel_rfl
theorem ya62 : tAgg Tryd.prog 62 = some true := by kernel_rfl
theorem ys62 : tSize Tryd.prog 62 = some 64 := by kernel_rfl
theorem yby62 : tBytes Tryd.prog 62 = some 64 := by kernel_rfl
theorem yar62 : tArr Tryd.prog 62 = some (64, 5) := by kernel_rfl
theorem ya63 : tAgg Tryd.prog 63 = some false := by kernel_rfl
theorem ys63 : tSize Tryd.prog 63 = some 1 := by kernel_rfl
theorem yby63 : tBytes Tryd.prog 63 = some 8 := by kernel_rfl
theorem yz63 : tZero Tryd.prog 63 = some (.nilFunc) := by kernel_rfl
theorem ya64 : tAgg Tryd.prog 64 = some true := by kernel_rfl
theorem ys64 : tSize Tryd.prog 64 = some 4 := by kernel_rfl
theorem yby64 : tBytes Tryd.prog 64 = some 40 := by kernel_rfl
theorem yz64 : tZero Tryd.prog 64 = some (.agg #[.pointer none, .pointer none, .pointer none, .string ByteArray.empty]) := by kernel_rfl
theorem yf64_0 : tField Tryd.prog 64 0 = some (0, 17) := by kernel_rfl
theorem yf64_1 : tField Tryd.prog 64 1 = some (1, 17) := by kernel_rfl
theorem yf64_2 : tField Tryd.prog 64 2 = some (2, 17) := by kernel_rfl
theorem yf64_3 : tField Tryd.prog 64 3 = some (3, 9) := by kernel_rfl
theorem yp64 : tPlaces Tryd.prog 64 = some [(0, 1), (1, 1), (2, 1), (3, 1)] := by kernel_rfl
theorem ya66 : tAgg Tryd.prog 66 = some true := by kernel_rfl
theorem ys66 : tSize Tryd.prog 66 = some 0 := by kernel_rfl
theorem yby66 : tBytes Tryd.prog 66 = some 0 := by kernel_rfl
theorem yz66 : tZero Tryd.prog 66 = some (.agg #[]) := by kernel_rfl
theorem yar66 : tArr Tryd.prog 66 = some (0, 16) := by kernel_rfl
theorem ya67 : tAgg Tryd.prog 67 = some true := by kernel_rfl
theorem ys67 : tSize Tryd.prog 67 = some 0 := by kernel_rfl
theorem yby67 : tBytes Tryd.prog 67 = some 0 := by kernel_rfl
theorem yz67 : tZero Tryd.prog 67 = some (.agg #[]) := by kernel_rfl
theorem yf67_0 : tField Tryd.prog 67 0 = some (0, 66) := by kernel_rfl
theorem yp67 : tPlaces Tryd.prog 67 = some [(0, 0)] := by kernel_rfl
theorem ya69 : tAgg Tryd.prog 69 = some false := by kernel_rfl
theorem ys69 : tSize Tryd.prog 69 = some 1 := by kernel_rfl
theorem yby69 : tBytes Tryd.prog 69 = some 8 := by kernel_rfl
theorem yz69 : tZero Tryd.prog 69 = some (.nilFunc) := by kernel_rfl
theorem ya72 : tAgg Tryd.prog 72 = some false := by kernel_rfl
theorem ys72 : tSize Tryd.prog 72 = some 1 := by kernel_rfl
theorem yby72 : tBytes Tryd.prog 72 = some 8 := by kernel_rfl
theorem yz72 : tZero Tryd.prog 72 = some (.nilFunc) := by kernel_rfl
theorem ya73 : tAgg Tryd.prog 73 = some false := by kernel_rfl
theorem ys73 : tSize Tryd.prog 73 = some 1 := by kernel_rfl
theorem yby73 : tBytes Tryd.prog 73 = some 8 := by kernel_rfl
theorem yz73 : tZero Tryd.prog 73 = some (.pointer none) := by kernel_rfl
theorem ypt73 : tPtr Tryd.prog 73 = some 5 := by kernel_rfl
theorem ya76 : tAgg Tryd.prog 76 = some true := by kernel_rfl
theorem ys76 : tSize Tryd.prog 76 = some 11 := by kernel_rfl
theorem yby76 : tBytes Tryd.prog 76 = some 48 := by kernel_rfl
theorem yz76 : tZero Tryd.prog 76 = some (.agg #[.int .u64 0, .int .u64 0, .int .u32 0, .int .u8 0, .int .u8 0, .int .u8 0, .int .u8 0, .nilFunc, .pointer none, .int .i32 0, .int .i32 0]) := by kernel_rfl
theorem yf76_0 : tField Tryd.prog 76 0 = some (0, 12) := by kernel_rfl
theorem yf76_1 : tField Tryd.prog 76 1 = some (1, 12) := by kernel_rfl
theorem yf76_2 : tField Tryd.prog 76 2 = some (2, 55) := by kernel_rfl
theorem yf76_3 : tField Tryd.prog 76 3 = some (3, 70) := by kernel_rfl
theorem yf76_4 : tField Tryd.prog 76 4 = some (4, 5) := by kernel_rfl
theorem yf76_5 : tField Tryd.prog 76 5 = some (5, 5) := by kernel_rfl
theorem yf76_6 : tField Tryd.prog 76 6 = some (6, 71) := by kernel_rfl
theorem yf76_7 : tField Tryd.prog 76 7 = some (7, 72) := by kernel_rfl
theorem yf76_8 : tField Tryd.prog 76 8 = some (8, 73) := by kernel_rfl
theorem yf76_9 : tField Tryd.prog 76 9 = some (9, 74) := by kernel_rfl
theorem yf76_10 : tField Tryd.prog 76 10 = some (10, 75) := by kernel_rfl
theorem yp76 : tPlaces Tryd.prog 76 = some [(0, 1), (1, 1), (2, 1), (3, 1), (4, 1), (5, 1), (6, 1), (7, 1), (8, 1), (9, 1), (10, 1)] := by kernel_rfl
theorem ya78 : tAgg Tryd.prog 78 = some false := by kernel_rfl
theorem ys78 : tSize Tryd.prog 78 = some 1 := by kernel_rfl
theorem yby78 : tBytes Tryd.prog 78 = some 8 := by kernel_rfl
theorem yz78 : tZero Tryd.prog 78 = some (.pointer none) := by kernel_rfl

end Go.Proofs.YtbkhkbfjfblbjaaDoor
