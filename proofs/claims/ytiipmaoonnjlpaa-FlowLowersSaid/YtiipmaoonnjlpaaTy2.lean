/- Closed facts on the types of the program, for the second executor. No conditions. -/
import Derived.Test.YtiipmaoonnjlpaaSyA
import Derived.Test.YtiipmaoonnjlpaaRows
import Derived.KernelRfl
namespace Go.Proofs.Ytiipmaoonnjlpaa
open Go Go.Sy
theorem ya2 : tAgg Try.prog 2 = some false := by kernel_rfl
theorem ys2 : tSize Try.prog 2 = some 1 := by kernel_rfl
theorem yby2 : tBytes Try.prog 2 = some 8 := by kernel_rfl
theorem yz2 : tZero Try.prog 2 = some (.int .i64 0) := by kernel_rfl
theorem yi2 : tInt Try.prog 2 = some .i64 := by kernel_rfl
theorem ya3 : tAgg Try.prog 3 = some false := by kernel_rfl
theorem ys3 : tSize Try.prog 3 = some 1 := by kernel_rfl
theorem yby3 : tBytes Try.prog 3 = some 8 := by kernel_rfl
theorem yz3 : tZero Try.prog 3 = some (.int .i64 0) := by kernel_rfl
theorem yi3 : tInt Try.prog 3 = some .i64 := by kernel_rfl
theorem ya4 : tAgg Try.prog 4 = some false := by kernel_rfl
theorem ys4 : tSize Try.prog 4 = some 1 := by kernel_rfl
theorem yby4 : tBytes Try.prog 4 = some 1 := by kernel_rfl
theorem yz4 : tZero Try.prog 4 = some (.bool false) := by kernel_rfl
theorem yb4 : Try.prog.underlying 4 = some .bool := by kernel_rfl
theorem ya5 : tAgg Try.prog 5 = some false := by kernel_rfl
theorem ys5 : tSize Try.prog 5 = some 1 := by kernel_rfl
theorem yby5 : tBytes Try.prog 5 = some 1 := by kernel_rfl
theorem yz5 : tZero Try.prog 5 = some (.int .u8 0) := by kernel_rfl
theorem yi5 : tInt Try.prog 5 = some .u8 := by kernel_rfl
theorem yf7_0 : tField Try.prog 7 0 = some (0, 2) := by kernel_rfl
theorem yf7_1 : tField Try.prog 7 1 = some (1, 3) := by kernel_rfl
theorem yf7_2 : tField Try.prog 7 2 = some (2, 4) := by kernel_rfl
theorem yf7_3 : tField Try.prog 7 3 = some (3, 6) := by kernel_rfl
theorem ya9 : tAgg Try.prog 9 = some false := by kernel_rfl
theorem ys9 : tSize Try.prog 9 = some 1 := by kernel_rfl
theorem yby9 : tBytes Try.prog 9 = some 16 := by kernel_rfl
theorem yz9 : tZero Try.prog 9 = some (.string ByteArray.empty) := by kernel_rfl
theorem yst9 : tStr Try.prog 9 = true := by kernel_rfl
theorem yf13_0 : tField Try.prog 13 0 = some (0, 9) := by kernel_rfl
theorem yf13_1 : tField Try.prog 13 1 = some (1, 12) := by kernel_rfl
theorem yf18_0 : tField Try.prog 18 0 = some (0, 17) := by kernel_rfl
theorem ya22 : tAgg Try.prog 22 = some false := by kernel_rfl
theorem ys22 : tSize Try.prog 22 = some 1 := by kernel_rfl
theorem yby22 : tBytes Try.prog 22 = some 24 := by kernel_rfl
theorem yz22 : tZero Try.prog 22 = some (.slice none 0 0) := by kernel_rfl
theorem ye22 : tElem Try.prog 22 = some 5 := by kernel_rfl
theorem ya24 : tAgg Try.prog 24 = some false := by kernel_rfl
theorem ys24 : tSize Try.prog 24 = some 1 := by kernel_rfl
theorem yby24 : tBytes Try.prog 24 = some 24 := by kernel_rfl
theorem yz24 : tZero Try.prog 24 = some (.slice none 0 0) := by kernel_rfl
theorem ye24 : tElem Try.prog 24 = some 108 := by kernel_rfl
theorem ya25 : tAgg Try.prog 25 = some false := by kernel_rfl
theorem ys25 : tSize Try.prog 25 = some 1 := by kernel_rfl
theorem yby25 : tBytes Try.prog 25 = some 24 := by kernel_rfl
theorem yz25 : tZero Try.prog 25 = some (.slice none 0 0) := by kernel_rfl
theorem ye25 : tElem Try.prog 25 = some 39 := by kernel_rfl
theorem ya26 : tAgg Try.prog 26 = some true := by kernel_rfl
theorem ys26 : tSize Try.prog 26 = some 4 := by kernel_rfl
theorem yby26 : tBytes Try.prog 26 = some 88 := by kernel_rfl
theorem yz26 : tZero Try.prog 26 = some (.agg #[.string ByteArray.empty, .slice none 0 0, .slice none 0 0, .slice none 0 0]) := by kernel_rfl
theorem yf26_0 : tField Try.prog 26 0 = some (0, 9) := by kernel_rfl
theorem yf26_1 : tField Try.prog 26 1 = some (1, 24) := by kernel_rfl
theorem yf26_2 : tField Try.prog 26 2 = some (2, 24) := by kernel_rfl
theorem yf26_3 : tField Try.prog 26 3 = some (3, 25) := by kernel_rfl
theorem yp26 : tPlaces Try.prog 26 = some [(0, 1), (1, 1), (2, 1), (3, 1)] := by kernel_rfl
theorem ya27 : tAgg Try.prog 27 = some true := by kernel_rfl
theorem ys27 : tSize Try.prog 27 = some 4 := by kernel_rfl
theorem yby27 : tBytes Try.prog 27 = some 88 := by kernel_rfl
theorem yz27 : tZero Try.prog 27 = some (.agg #[.string ByteArray.empty, .slice none 0 0, .slice none 0 0, .slice none 0 0]) := by kernel_rfl
theorem yf27_0 : tField Try.prog 27 0 = some (0, 9) := by kernel_rfl
theorem yf27_1 : tField Try.prog 27 1 = some (1, 24) := by kernel_rfl
theorem yf27_2 : tField Try.prog 27 2 = some (2, 24) := by kernel_rfl
theorem yf27_3 : tField Try.prog 27 3 = some (3, 25) := by kernel_rfl
theorem yp27 : tPlaces Try.prog 27 = some [(0, 1), (1, 1), (2, 1), (3, 1)] := by kernel_rfl
theorem ya30 : tAgg Try.prog 30 = some false := by kernel_rfl
theorem ys30 : tSize Try.prog 30 = some 1 := by kernel_rfl
theorem yby30 : tBytes Try.prog 30 = some 24 := by kernel_rfl
theorem yz30 : tZero Try.prog 30 = some (.slice none 0 0) := by kernel_rfl
theorem ye30 : tElem Try.prog 30 = some 42 := by kernel_rfl
theorem ya31 : tAgg Try.prog 31 = some true := by kernel_rfl
theorem ys31 : tSize Try.prog 31 = some 1 := by kernel_rfl
theorem yby31 : tBytes Try.prog 31 = some 24 := by kernel_rfl
theorem yz31 : tZero Try.prog 31 = some (.agg #[.slice none 0 0]) := by kernel_rfl
theorem yf31_0 : tField Try.prog 31 0 = some (0, 30) := by kernel_rfl
theorem yp31 : tPlaces Try.prog 31 = some [(0, 1)] := by kernel_rfl
theorem ya32 : tAgg Try.prog 32 = some true := by kernel_rfl
theorem ys32 : tSize Try.prog 32 = some 1 := by kernel_rfl
theorem yby32 : tBytes Try.prog 32 = some 24 := by kernel_rfl
theorem yz32 : tZero Try.prog 32 = some (.agg #[.slice none 0 0]) := by kernel_rfl
theorem yf32_0 : tField Try.prog 32 0 = some (0, 30) := by kernel_rfl
theorem yp32 : tPlaces Try.prog 32 = some [(0, 1)] := by kernel_rfl
theorem ya34 : tAgg Try.prog 34 = some true := by kernel_rfl
theorem ys34 : tSize Try.prog 34 = some 5 := by kernel_rfl
theorem yby34 : tBytes Try.prog 34 = some 40 := by kernel_rfl
theorem yz34 : tZero Try.prog 34 = some (.agg #[.int .i64 0, .int .i64 0, .int .i64 0, .int .i64 0, .int .i64 0]) := by kernel_rfl
theorem yar34 : tArr Try.prog 34 = some (5, 3) := by kernel_rfl
theorem ya35 : tAgg Try.prog 35 = some false := by kernel_rfl
theorem ys35 : tSize Try.prog 35 = some 1 := by kernel_rfl
theorem yby35 : tBytes Try.prog 35 = some 8 := by kernel_rfl
theorem yz35 : tZero Try.prog 35 = some (.pointer none) := by kernel_rfl
theorem ypt35 : tPtr Try.prog 35 = some 139 := by kernel_rfl
theorem ya36 : tAgg Try.prog 36 = some false := by kernel_rfl
theorem ys36 : tSize Try.prog 36 = some 1 := by kernel_rfl
theorem yby36 : tBytes Try.prog 36 = some 8 := by kernel_rfl
theorem yz36 : tZero Try.prog 36 = some (.pointer none) := by kernel_rfl
theorem ypt36 : tPtr Try.prog 36 = some 141 := by kernel_rfl
theorem ya37 : tAgg Try.prog 37 = some false := by kernel_rfl
theorem ys37 : tSize Try.prog 37 = some 1 := by kernel_rfl
theorem yby37 : tBytes Try.prog 37 = some 24 := by kernel_rfl
theorem yz37 : tZero Try.prog 37 = some (.slice none 0 0) := by kernel_rfl
theorem ye37 : tElem Try.prog 37 = some 124 := by kernel_rfl
theorem ya38 : tAgg Try.prog 38 = some true := by kernel_rfl
theorem ys38 : tSize Try.prog 38 = some 10 := by kernel_rfl
theorem yby38 : tBytes Try.prog 38 = some 144 := by kernel_rfl
theorem yz38 : tZero Try.prog 38 = some (.agg #[.int .i64 0, .string ByteArray.empty, .string ByteArray.empty, .pointer none, .pointer none, .pointer none, .slice none 0 0, .slice none 0 0, .slice none 0 0, .int .i64 0]) := by kernel_rfl
theorem yf38_0 : tField Try.prog 38 0 = some (0, 3) := by kernel_rfl
theorem yf38_1 : tField Try.prog 38 1 = some (1, 9) := by kernel_rfl
theorem yf38_2 : tField Try.prog 38 2 = some (2, 9) := by kernel_rfl
theorem yf38_3 : tField Try.prog 38 3 = some (3, 35) := by kernel_rfl
theorem yf38_4 : tField Try.prog 38 4 = some (4, 35) := by kernel_rfl
theorem yf38_5 : tField Try.prog 38 5 = some (5, 36) := by kernel_rfl
theorem yf38_6 : tField Try.prog 38 6 = some (6, 37) := by kernel_rfl
theorem yf38_7 : tField Try.prog 38 7 = some (7, 25) := by kernel_rfl
theorem yf38_8 : tField Try.prog 38 8 = some (8, 25) := by kernel_rfl
theorem yf38_9 : tField Try.prog 38 9 = some (9, 3) := by kernel_rfl
theorem yp38 : tPlaces Try.prog 38 = some [(0, 1), (1, 1), (2, 1), (3, 1), (4, 1), (5, 1), (6, 1), (7, 1), (8, 1), (9, 1)] := by kernel_rfl
theorem ya39 : tAgg Try.prog 39 = some true := by kernel_rfl
theorem ys39 : tSize Try.prog 39 = some 10 := by kernel_rfl
theorem yby39 : tBytes Try.prog 39 = some 144 := by kernel_rfl
theorem yz39 : tZero Try.prog 39 = some (.agg #[.int .i64 0, .string ByteArray.empty, .string ByteArray.empty, .pointer none, .pointer none, .pointer none, .slice none 0 0, .slice none 0 0, .slice none 0 0, .int .i64 0]) := by kernel_rfl
theorem yf39_0 : tField Try.prog 39 0 = some (0, 3) := by kernel_rfl
theorem yf39_1 : tField Try.prog 39 1 = some (1, 9) := by kernel_rfl
theorem yf39_2 : tField Try.prog 39 2 = some (2, 9) := by kernel_rfl
theorem yf39_3 : tField Try.prog 39 3 = some (3, 35) := by kernel_rfl
theorem yf39_4 : tField Try.prog 39 4 = some (4, 35) := by kernel_rfl
theorem yf39_5 : tField Try.prog 39 5 = some (5, 36) := by kernel_rfl
theorem yf39_6 : tField Try.prog 39 6 = some (6, 37) := by kernel_rfl
theorem yf39_7 : tField Try.prog 39 7 = some (7, 25) := by kernel_rfl
theorem yf39_8 : tField Try.prog 39 8 = some (8, 25) := by kernel_rfl
theorem yf39_9 : tField Try.prog 39 9 = some (9, 3) := by kernel_rfl
theorem yp39 : tPlaces Try.prog 39 = some [(0, 1), (1, 1), (2, 1), (3, 1), (4, 1), (5, 1), (6, 1), (7, 1), (8, 1), (9, 1)] := by kernel_rfl
theorem ya40 : tAgg Try.prog 40 = some false := by kernel_rfl
theorem ys40 : tSize Try.prog 40 = some 1 := by kernel_rfl
theorem yby40 : tBytes Try.prog 40 = some 24 := by kernel_rfl
theorem yz40 : tZero Try.prog 40 = some (.slice none 0 0) := by kernel_rfl
theorem ye40 : tElem Try.prog 40 = some 3 := by kernel_rfl
theorem ya41 : tAgg Try.prog 41 = some true := by kernel_rfl
theorem ys41 : tSize Try.prog 41 = some 13 := by kernel_rfl
theorem yby41 : tBytes Try.prog 41 = some 184 := by kernel_rfl
theorem yz41 : tZero Try.prog 41 = some (.agg #[.int .i64 0, .int .i64 0, .string ByteArray.empty, .string ByteArray.empty, .pointer none, .pointer none, .pointer none, .slice none 0 0, .slice none 0 0, .slice none 0 0, .int .i64 0, .slice none 0 0, .bool false]) := by kernel_rfl
theorem yf41_0 : tField Try.prog 41 0 = some (0, 3) := by kernel_rfl
theorem yf41_1 : tField Try.prog 41 1 = some (1, 39) := by kernel_rfl
theorem yf41_2 : tField Try.prog 41 2 = some (11, 40) := by kernel_rfl
theorem yf41_3 : tField Try.prog 41 3 = some (12, 4) := by kernel_rfl
theorem yp41 : tPlaces Try.prog 41 = some [(0, 1), (1, 10), (11, 1), (12, 1)] := by kernel_rfl
theorem ya42 : tAgg Try.prog 42 = some true := by kernel_rfl
theorem ys42 : tSize Try.prog 42 = some 13 := by kernel_rfl
theorem yby42 : tBytes Try.prog 42 = some 184 := by kernel_rfl
theorem yz42 : tZero Try.prog 42 = some (.agg #[.int .i64 0, .int .i64 0, .string ByteArray.empty, .string ByteArray.empty, .pointer none, .pointer none, .pointer none, .slice none 0 0, .slice none 0 0, .slice none 0 0, .int .i64 0, .slice none 0 0, .bool false]) := by kernel_rfl
theorem yf42_0 : tField Try.prog 42 0 = some (0, 3) := by kernel_rfl
theorem yf42_1 : tField Try.prog 42 1 = some (1, 39) := by kernel_rfl
theorem yf42_2 : tField Try.prog 42 2 = some (11, 40) := by kernel_rfl
theorem yf42_3 : tField Try.prog 42 3 = some (12, 4) := by kernel_rfl
theorem yp42 : tPlaces Try.prog 42 = some [(0, 1), (1, 10), (11, 1), (12, 1)] := by kernel_rfl
theorem ya48 : tAgg Try.prog 48 = some false := by kernel_rfl
theorem ys48 : tSize Try.prog 48 = some 1 := by kernel_rfl
theorem yby48 : tBytes Try.prog 48 = some 24 := by kernel_rfl
theorem yz48 : tZero Try.prog 48 = some (.slice none 0 0) := by kernel_rfl
theorem ye48 : tElem Try.prog 48 = some 4 := by kernel_rfl
theorem ya54 : tAgg Try.prog 54 = some false := by kernel_rfl
theorem ys54 : tSize Try.prog 54 = some 1 := by kernel_rfl
theorem yby54 : tBytes Try.prog 54 = some 24 := by kernel_rfl
theorem yz54 : tZero Try.prog 54 = some (.slice none 0 0) := by kernel_rfl
theorem ye54 : tElem Try.prog 54 = some 40 := by kernel_rfl
theorem ya59 : tAgg Try.prog 59 = some false := by kernel_rfl
theorem ys59 : tSize Try.prog 59 = some 1 := by kernel_rfl
theorem yby59 : tBytes Try.prog 59 = some 24 := by kernel_rfl
theorem yz59 : tZero Try.prog 59 = some (.slice none 0 0) := by kernel_rfl
theorem ye59 : tElem Try.prog 59 = some 104 := by kernel_rfl
theorem ya62 : tAgg Try.prog 62 = some false := by kernel_rfl
theorem ys62 : tSize Try.prog 62 = some 1 := by kernel_rfl
theorem yby62 : tBytes Try.prog 62 = some 8 := by kernel_rfl
theorem yz62 : tZero Try.prog 62 = some (.pointer none) := by kernel_rfl
theorem ypt62 : tPtr Try.prog 62 = some 64 := by kernel_rfl
theorem ya63 : tAgg Try.prog 63 = some true := by kernel_rfl
theorem ys63 : tSize Try.prog 63 = some 7 := by kernel_rfl
theorem yby63 : tBytes Try.prog 63 = some 72 := by kernel_rfl
theorem yz63 : tZero Try.prog 63 = some (.agg #[.slice none 0 0, .int .i64 0, .int .i64 0, .int .i64 0, .int .i64 0, .int .i64 0, .int .i64 0]) := by kernel_rfl
theorem yf63_0 : tField Try.prog 63 0 = some (0, 59) := by kernel_rfl
theorem yf63_1 : tField Try.prog 63 1 = some (1, 3) := by kernel_rfl
theorem yf63_2 : tField Try.prog 63 2 = some (2, 3) := by kernel_rfl
theorem yf63_3 : tField Try.prog 63 3 = some (3, 3) := by kernel_rfl
theorem yf63_4 : tField Try.prog 63 4 = some (4, 3) := by kernel_rfl
theorem yf63_5 : tField Try.prog 63 5 = some (5, 3) := by kernel_rfl
theorem yf63_6 : tField Try.prog 63 6 = some (6, 3) := by kernel_rfl
theorem yp63 : tPlaces Try.prog 63 = some [(0, 1), (1, 1), (2, 1), (3, 1), (4, 1), (5, 1), (6, 1)] := by kernel_rfl
theorem ya64 : tAgg Try.prog 64 = some true := by kernel_rfl
theorem ys64 : tSize Try.prog 64 = some 7 := by kernel_rfl
theorem yby64 : tBytes Try.prog 64 = some 72 := by kernel_rfl
theorem yz64 : tZero Try.prog 64 = some (.agg #[.slice none 0 0, .int .i64 0, .int .i64 0, .int .i64 0, .int .i64 0, .int .i64 0, .int .i64 0]) := by kernel_rfl
theorem yf64_0 : tField Try.prog 64 0 = some (0, 59) := by kernel_rfl
theorem yf64_1 : tField Try.prog 64 1 = some (1, 3) := by kernel_rfl
theorem yf64_2 : tField Try.prog 64 2 = some (2, 3) := by kernel_rfl
theorem yf64_3 : tField Try.prog 64 3 = some (3, 3) := by kernel_rfl
theorem yf64_4 : tField Try.prog 64 4 = some (4, 3) := by kernel_rfl
theorem yf64_5 : tField Try.prog 64 5 = some (5, 3) := by kernel_rfl
theorem yf64_6 : tField Try.prog 64 6 = some (6, 3) := by kernel_rfl
theorem yp64 : tPlaces Try.prog 64 = some [(0, 1), (1, 1), (2, 1), (3, 1), (4, 1), (5, 1), (6, 1)] := by kernel_rfl
theorem ya71 : tAgg Try.prog 71 = some true := by kernel_rfl
theorem ys71 : tSize Try.prog 71 = some 1 := by kernel_rfl
theorem yby71 : tBytes Try.prog 71 = some 24 := by kernel_rfl
theorem yz71 : tZero Try.prog 71 = some (.agg #[.slice none 0 0]) := by kernel_rfl
theorem yf71_0 : tField Try.prog 71 0 = some (0, 30) := by kernel_rfl
theorem yp71 : tPlaces Try.prog 71 = some [(0, 1)] := by kernel_rfl
theorem ya72 : tAgg Try.prog 72 = some true := by kernel_rfl
theorem ys72 : tSize Try.prog 72 = some 1 := by kernel_rfl
theorem yby72 : tBytes Try.prog 72 = some 24 := by kernel_rfl
theorem yz72 : tZero Try.prog 72 = some (.agg #[.slice none 0 0]) := by kernel_rfl
theorem yf72_0 : tField Try.prog 72 0 = some (0, 30) := by kernel_rfl
theorem yp72 : tPlaces Try.prog 72 = some [(0, 1)] := by kernel_rfl
theorem ya73 : tAgg Try.prog 73 = some true := by kernel_rfl
theorem ys73 : tSize Try.prog 73 = some 2 := by kernel_rfl
theorem yby73 : tBytes Try.prog 73 = some 48 := by kernel_rfl
theorem yz73 : tZero Try.prog 73 = some (.agg #[.slice none 0 0, .slice none 0 0]) := by kernel_rfl
theorem yf73_0 : tField Try.prog 73 0 = some (0, 72) := by kernel_rfl
theorem yf73_1 : tField Try.prog 73 1 = some (1, 40) := by kernel_rfl
theorem yp73 : tPlaces Try.prog 73 = some [(0, 1), (1, 1)] := by kernel_rfl
theorem ya74 : tAgg Try.prog 74 = some true := by kernel_rfl
theorem ys74 : tSize Try.prog 74 = some 2 := by kernel_rfl
theorem yby74 : tBytes Try.prog 74 = some 48 := by kernel_rfl
theorem yz74 : tZero Try.prog 74 = some (.agg #[.slice none 0 0, .slice none 0 0]) := by kernel_rfl
theorem yf74_0 : tField Try.prog 74 0 = some (0, 72) := by kernel_rfl
theorem yf74_1 : tField Try.prog 74 1 = some (1, 40) := by kernel_rfl
theorem yp74 : tPlaces Try.prog 74 = some [(0, 1), (1, 1)] := by kernel_rfl
theorem ya79 : tAgg Try.prog 79 = some false := by kernel_rfl
theorem ys79 : tSize Try.prog 79 = some 1 := by kernel_rfl
theorem yby79 : tBytes Try.prog 79 = some 24 := by kernel_rfl
theorem yz79 : tZero Try.prog 79 = some (.slice none 0 0) := by kernel_rfl
theorem ye79 : tElem Try.prog 79 = some 9 := by kernel_rfl
theorem ya80 : tAgg Try.prog 80 = some false := by kernel_rfl
theorem ys80 : tSize Try.prog 80 = some 1 := by kernel_rfl
theorem yby80 : tBytes Try.prog 80 = some 24 := by kernel_rfl
theorem yz80 : tZero Try.prog 80 = some (.slice none 0 0) := by kernel_rfl
theorem ye80 : tElem Try.prog 80 = some 135 := by kernel_rfl
theorem ya81 : tAgg Try.prog 81 = some true := by kernel_rfl
theorem ys81 : tSize Try.prog 81 = some 2 := by kernel_rfl
theorem yby81 : tBytes Try.prog 81 = some 48 := by kernel_rfl
theorem yz81 : tZero Try.prog 81 = some (.agg #[.slice none 0 0, .slice none 0 0]) := by kernel_rfl
theorem yf81_0 : tField Try.prog 81 0 = some (0, 79) := by kernel_rfl
theorem yf81_1 : tField Try.prog 81 1 = some (1, 80) := by kernel_rfl
theorem yp81 : tPlaces Try.prog 81 = some [(0, 1), (1, 1)] := by kernel_rfl
theorem ya82 : tAgg Try.prog 82 = some true := by kernel_rfl
theorem ys82 : tSize Try.prog 82 = some 2 := by kernel_rfl
theorem yby82 : tBytes Try.prog 82 = some 48 := by kernel_rfl
theorem yz82 : tZero Try.prog 82 = some (.agg #[.slice none 0 0, .slice none 0 0]) := by kernel_rfl
theorem yf82_0 : tField Try.prog 82 0 = some (0, 79) := by kernel_rfl
theorem yf82_1 : tField Try.prog 82 1 = some (1, 80) := by kernel_rfl
theorem yp82 : tPlaces Try.prog 82 = some [(0, 1), (1, 1)] := by kernel_rfl
theorem ya83 : tAgg Try.prog 83 = some false := by kernel_rfl
theorem ys83 : tSize Try.prog 83 = some 1 := by kernel_rfl
theorem yby83 : tBytes Try.prog 83 = some 24 := by kernel_rfl
theorem yz83 : tZero Try.prog 83 = some (.slice none 0 0) := by kernel_rfl
theorem ye83 : tElem Try.prog 83 = some 27 := by kernel_rfl
theorem ya84 : tAgg Try.prog 84 = some true := by kernel_rfl
theorem ys84 : tSize Try.prog 84 = some 3 := by kernel_rfl
theorem yby84 : tBytes Try.prog 84 = some 72 := by kernel_rfl
theorem yz84 : tZero Try.prog 84 = some (.agg #[.slice none 0 0, .slice none 0 0, .slice none 0 0]) := by kernel_rfl
theorem yf84_0 : tField Try.prog 84 0 = some (0, 82) := by kernel_rfl
theorem yf84_1 : tField Try.prog 84 1 = some (2, 83) := by kernel_rfl
theorem yp84 : tPlaces Try.prog 84 = some [(0, 2), (2, 1)] := by kernel_rfl
theorem ya85 : tAgg Try.prog 85 = some true := by kernel_rfl
theorem ys85 : tSize Try.prog 85 = some 3 := by kernel_rfl
theorem yby85 : tBytes Try.prog 85 = some 72 := by kernel_rfl
theorem yz85 : tZero Try.prog 85 = some (.agg #[.slice none 0 0, .slice none 0 0, .slice none 0 0]) := by kernel_rfl
theorem yf85_0 : tField Try.prog 85 0 = some (0, 82) := by kernel_rfl
theorem yf85_1 : tField Try.prog 85 1 = some (2, 83) := by kernel_rfl
theorem yp85 : tPlaces Try.prog 85 = some [(0, 2), (2, 1)] := by kernel_rfl
theorem ya89 : tAgg Try.prog 89 = some true := by kernel_rfl
theorem ys89 : tSize Try.prog 89 = some 2 := by kernel_rfl
theorem yby89 : tBytes Try.prog 89 = some 32 := by kernel_rfl
theorem yz89 : tZero Try.prog 89 = some (.agg #[.string ByteArray.empty, .string ByteArray.empty]) := by kernel_rfl
theorem yf89_0 : tField Try.prog 89 0 = some (0, 9) := by kernel_rfl
theorem yf89_1 : tField Try.prog 89 1 = some (1, 9) := by kernel_rfl
theorem yp89 : tPlaces Try.prog 89 = some [(0, 1), (1, 1)] := by kernel_rfl
theorem ya90 : tAgg Try.prog 90 = some true := by kernel_rfl
theorem ys90 : tSize Try.prog 90 = some 2 := by kernel_rfl
theorem yby90 : tBytes Try.prog 90 = some 32 := by kernel_rfl
theorem yz90 : tZero Try.prog 90 = some (.agg #[.string ByteArray.empty, .string ByteArray.empty]) := by kernel_rfl
theorem yf90_0 : tField Try.prog 90 0 = some (0, 9) := by kernel_rfl
theorem yf90_1 : tField Try.prog 90 1 = some (1, 9) := by kernel_rfl
theorem yp90 : tPlaces Try.prog 90 = some [(0, 1), (1, 1)] := by kernel_rfl
theorem yq90 : tEq Try.prog 90 = some [(0, .s), (1, .s)] := by kernel_rfl
theorem ya91 : tAgg Try.prog 91 = some false := by kernel_rfl
theorem ys91 : tSize Try.prog 91 = some 1 := by kernel_rfl
theorem yby91 : tBytes Try.prog 91 = some 24 := by kernel_rfl
theorem yz91 : tZero Try.prog 91 = some (.slice none 0 0) := by kernel_rfl
theorem ye91 : tElem Try.prog 91 = some 90 := by kernel_rfl
theorem ya92 : tAgg Try.prog 92 = some false := by kernel_rfl
theorem ys92 : tSize Try.prog 92 = some 1 := by kernel_rfl
theorem yby92 : tBytes Try.prog 92 = some 8 := by kernel_rfl
theorem yz92 : tZero Try.prog 92 = some (.pointer none) := by kernel_rfl
theorem ypt92 : tPtr Try.prog 92 = some 94 := by kernel_rfl
theorem ya93 : tAgg Try.prog 93 = some true := by kernel_rfl
theorem ys93 : tSize Try.prog 93 = some 1 := by kernel_rfl
theorem yby93 : tBytes Try.prog 93 = some 24 := by kernel_rfl
theorem yz93 : tZero Try.prog 93 = some (.agg #[.slice none 0 0]) := by kernel_rfl
theorem yf93_0 : tField Try.prog 93 0 = some (0, 30) := by kernel_rfl
theorem yp93 : tPlaces Try.prog 93 = some [(0, 1)] := by kernel_rfl
theorem ya94 : tAgg Try.prog 94 = some true := by kernel_rfl
theorem ys94 : tSize Try.prog 94 = some 1 := by kernel_rfl
theorem yby94 : tBytes Try.prog 94 = some 24 := by kernel_rfl
theorem yz94 : tZero Try.prog 94 = some (.agg #[.slice none 0 0]) := by kernel_rfl
theorem yf94_0 : tField Try.prog 94 0 = some (0, 30) := by kernel_rfl
theorem yp94 : tPlaces Try.prog 94 = some [(0, 1)] := by kernel_rfl
theorem ya96 : tAgg Try.prog 96 = some false := by kernel_rfl
theorem ys96 : tSize Try.prog 96 = some 1 := by kernel_rfl
theorem yby96 : tBytes Try.prog 96 = some 24 := by kernel_rfl
theorem yz96 : tZero Try.prog 96 = some (.slice none 0 0) := by kernel_rfl
theorem ye96 : tElem Try.prog 96 = some 98 := by kernel_rfl
theorem ya98 : tAgg Try.prog 98 = some true := by kernel_rfl
theorem ys98 : tSize Try.prog 98 = some 2 := by kernel_rfl
theorem yby98 : tBytes Try.prog 98 = some 16 := by kernel_rfl
theorem yz98 : tZero Try.prog 98 = some (.agg #[.int .i64 0, .int .i64 0]) := by kernel_rfl
theorem yar98 : tArr Try.prog 98 = some (2, 3) := by kernel_rfl
theorem ya99 : tAgg Try.prog 99 = some false := by kernel_rfl
theorem ys99 : tSize Try.prog 99 = some 1 := by kernel_rfl
theorem yby99 : tBytes Try.prog 99 = some 8 := by kernel_rfl
theorem yz99 : tZero Try.prog 99 = some (.pointer none) := by kernel_rfl
theorem ypt99 : tPtr Try.prog 99 = some 96 := by kernel_rfl
theorem ya103 : tAgg Try.prog 103 = some true := by kernel_rfl
theorem ys103 : tSize Try.prog 103 = some 3 := by kernel_rfl
theorem yby103 : tBytes Try.prog 103 = some 32 := by kernel_rfl
theorem yz103 : tZero Try.prog 103 = some (.agg #[.int .i64 0, .string ByteArray.empty, .int .i64 0]) := by kernel_rfl
theorem yf103_0 : tField Try.prog 103 0 = some (0, 3) := by kernel_rfl
theorem yf103_1 : tField Try.prog 103 1 = some (1, 9) := by kernel_rfl
theorem yf103_2 : tField Try.prog 103 2 = some (2, 3) := by kernel_rfl
theorem yp103 : tPlaces Try.prog 103 = some [(0, 1), (1, 1), (2, 1)] := by kernel_rfl
theorem ya104 : tAgg Try.prog 104 = some true := by kernel_rfl
theorem ys104 : tSize Try.prog 104 = some 3 := by kernel_rfl
theorem yby104 : tBytes Try.prog 104 = some 32 := by kernel_rfl
theorem yz104 : tZero Try.prog 104 = some (.agg #[.int .i64 0, .string ByteArray.empty, .int .i64 0]) := by kernel_rfl
theorem yf104_0 : tField Try.prog 104 0 = some (0, 3) := by kernel_rfl
theorem yf104_1 : tField Try.prog 104 1 = some (1, 9) := by kernel_rfl
theorem yf104_2 : tField Try.prog 104 2 = some (2, 3) := by kernel_rfl
theorem yp104 : tPlaces Try.prog 104 = some [(0, 1), (1, 1), (2, 1)] := by kernel_rfl
theorem yq104 : tEq Try.prog 104 = some [(0, .i), (1, .s), (2, .i)] := by kernel_rfl
theorem ya105 : tAgg Try.prog 105 = some false := by kernel_rfl
theorem ys105 : tSize Try.prog 105 = some 1 := by kernel_rfl
theorem yby105 : tBytes Try.prog 105 = some 8 := by kernel_rfl
theorem yz105 : tZero Try.prog 105 = some (.int .u64 0) := by kernel_rfl
theorem yi105 : tInt Try.prog 105 = some .u64 := by kernel_rfl
theorem ya107 : tAgg Try.prog 107 = some true := by kernel_rfl
theorem ys107 : tSize Try.prog 107 = some 2 := by kernel_rfl
theorem yby107 : tBytes Try.prog 107 = some 24 := by kernel_rfl
theorem yz107 : tZero Try.prog 107 = some (.agg #[.string ByteArray.empty, .bool false]) := by kernel_rfl
theorem yf107_0 : tField Try.prog 107 0 = some (0, 9) := by kernel_rfl
theorem yf107_1 : tField Try.prog 107 1 = some (1, 4) := by kernel_rfl
theorem yp107 : tPlaces Try.prog 107 = some [(0, 1), (1, 1)] := by kernel_rfl
theorem ya108 : tAgg Try.prog 108 = some true := by kernel_rfl
theorem ys108 : tSize Try.prog 108 = some 2 := by kernel_rfl
theorem yby108 : tBytes Try.prog 108 = some 24 := by kernel_rfl
theorem yz108 : tZero Try.prog 108 = some (.agg #[.string ByteArray.empty, .bool false]) := by kernel_rfl
theorem yf108_0 : tField Try.prog 108 0 = some (0, 9) := by kernel_rfl
theorem yf108_1 : tField Try.prog 108 1 = some (1, 4) := by kernel_rfl
theorem yp108 : tPlaces Try.prog 108 = some [(0, 1), (1, 1)] := by kernel_rfl
theorem yq108 : tEq Try.prog 108 = some [(0, .s), (1, .b)] := by kernel_rfl
theorem ya118 : tAgg Try.prog 118 = some false := by kernel_rfl
theorem ys118 : tSize Try.prog 118 = some 1 := by kernel_rfl
theorem yby118 : tBytes Try.prog 118 = some 8 := by kernel_rfl
theorem yz118 : tZero Try.prog 118 = some (.pointer none) := by kernel_rfl
theorem ypt118 : tPtr Try.prog 118 = some 120 := by kernel_rfl
theorem ya119 : tAgg Try.prog 119 = some true := by kernel_rfl
theorem ys119 : tSize Try.prog 119 = some 3 := by kernel_rfl
theorem yby119 : tBytes Try.prog 119 = some 40 := by kernel_rfl
theorem yz119 : tZero Try.prog 119 = some (.agg #[.slice none 0 0, .int .i64 0, .int .i64 0]) := by kernel_rfl
theorem yf119_0 : tField Try.prog 119 0 = some (0, 22) := by kernel_rfl
theorem yf119_1 : tField Try.prog 119 1 = some (1, 3) := by kernel_rfl
theorem yf119_2 : tField Try.prog 119 2 = some (2, 3) := by kernel_rfl
theorem yp119 : tPlaces Try.prog 119 = some [(0, 1), (1, 1), (2, 1)] := by kernel_rfl
theorem ya120 : tAgg Try.prog 120 = some true := by kernel_rfl
theorem ys120 : tSize Try.prog 120 = some 3 := by kernel_rfl
theorem yby120 : tBytes Try.prog 120 = some 40 := by kernel_rfl
theorem yz120 : tZero Try.prog 120 = some (.agg #[.slice none 0 0, .int .i64 0, .int .i64 0]) := by kernel_rfl
theorem yf120_0 : tField Try.prog 120 0 = some (0, 22) := by kernel_rfl
theorem yf120_1 : tField Try.prog 120 1 = some (1, 3) := by kernel_rfl
theorem yf120_2 : tField Try.prog 120 2 = some (2, 3) := by kernel_rfl
theorem yp120 : tPlaces Try.prog 120 = some [(0, 1), (1, 1), (2, 1)] := by kernel_rfl
theorem ya123 : tAgg Try.prog 123 = some true := by kernel_rfl
theorem ys123 : tSize Try.prog 123 = some 3 := by kernel_rfl
theorem yby123 : tBytes Try.prog 123 = some 32 := by kernel_rfl
theorem yz123 : tZero Try.prog 123 = some (.agg #[.bool false, .string ByteArray.empty, .pointer none]) := by kernel_rfl
theorem yf123_0 : tField Try.prog 123 0 = some (0, 4) := by kernel_rfl
theorem yf123_1 : tField Try.prog 123 1 = some (1, 9) := by kernel_rfl
theorem yf123_2 : tField Try.prog 123 2 = some (2, 35) := by kernel_rfl
theorem yp123 : tPlaces Try.prog 123 = some [(0, 1), (1, 1), (2, 1)] := by kernel_rfl
theorem ya124 : tAgg Try.prog 124 = some true := by kernel_rfl
theorem ys124 : tSize Try.prog 124 = some 3 := by kernel_rfl
theorem yby124 : tBytes Try.prog 124 = some 32 := by kernel_rfl
theorem yz124 : tZero Try.prog 124 = some (.agg #[.bool false, .string ByteArray.empty, .pointer none]) := by kernel_rfl
theorem yf124_0 : tField Try.prog 124 0 = some (0, 4) := by kernel_rfl
theorem yf124_1 : tField Try.prog 124 1 = some (1, 9) := by kernel_rfl
theorem yf124_2 : tField Try.prog 124 2 = some (2, 35) := by kernel_rfl
theorem yp124 : tPlaces Try.prog 124 = some [(0, 1), (1, 1), (2, 1)] := by kernel_rfl
theorem ya134 : tAgg Try.prog 134 = some true := by kernel_rfl
theorem ys134 : tSize Try.prog 134 = some 2 := by kernel_rfl
theorem yby134 : tBytes Try.prog 134 = some 24 := by kernel_rfl
theorem yz134 : tZero Try.prog 134 = some (.agg #[.string ByteArray.empty, .int .i64 0]) := by kernel_rfl
theorem yf134_0 : tField Try.prog 134 0 = some (0, 9) := by kernel_rfl
theorem yf134_1 : tField Try.prog 134 1 = some (1, 3) := by kernel_rfl
theorem yp134 : tPlaces Try.prog 134 = some [(0, 1), (1, 1)] := by kernel_rfl
theorem ya135 : tAgg Try.prog 135 = some true := by kernel_rfl
theorem ys135 : tSize Try.prog 135 = some 2 := by kernel_rfl
theorem yby135 : tBytes Try.prog 135 = some 24 := by kernel_rfl
theorem yz135 : tZero Try.prog 135 = some (.agg #[.string ByteArray.empty, .int .i64 0]) := by kernel_rfl
theorem yf135_0 : tField Try.prog 135 0 = some (0, 9) := by kernel_rfl
theorem yf135_1 : tField Try.prog 135 1 = some (1, 3) := by kernel_rfl
theorem yp135 : tPlaces Try.prog 135 = some [(0, 1), (1, 1)] := by kernel_rfl
theorem yq135 : tEq Try.prog 135 = some [(0, .s), (1, .i)] := by kernel_rfl
theorem ya138 : tAgg Try.prog 138 = some true := by kernel_rfl
theorem ys138 : tSize Try.prog 138 = some 5 := by kernel_rfl
theorem yby138 : tBytes Try.prog 138 = some 48 := by kernel_rfl
theorem yz138 : tZero Try.prog 138 = some (.agg #[.int .i64 0, .int .i64 0, .string ByteArray.empty, .pointer none, .pointer none]) := by kernel_rfl
theorem yf138_0 : tField Try.prog 138 0 = some (0, 3) := by kernel_rfl
theorem yf138_1 : tField Try.prog 138 1 = some (1, 2) := by kernel_rfl
theorem yf138_2 : tField Try.prog 138 2 = some (2, 9) := by kernel_rfl
theorem yf138_3 : tField Try.prog 138 3 = some (3, 35) := by kernel_rfl
theorem yf138_4 : tField Try.prog 138 4 = some (4, 35) := by kernel_rfl
theorem yp138 : tPlaces Try.prog 138 = some [(0, 1), (1, 1), (2, 1), (3, 1), (4, 1)] := by kernel_rfl
theorem ya139 : tAgg Try.prog 139 = some true := by kernel_rfl
theorem ys139 : tSize Try.prog 139 = some 5 := by kernel_rfl
theorem yby139 : tBytes Try.prog 139 = some 48 := by kernel_rfl
theorem yz139 : tZero Try.prog 139 = some (.agg #[.int .i64 0, .int .i64 0, .string ByteArray.empty, .pointer none, .pointer none]) := by kernel_rfl
theorem yf139_0 : tField Try.prog 139 0 = some (0, 3) := by kernel_rfl
theorem yf139_1 : tField Try.prog 139 1 = some (1, 2) := by kernel_rfl
theorem yf139_2 : tField Try.prog 139 2 = some (2, 9) := by kernel_rfl
theorem yf139_3 : tField Try.prog 139 3 = some (3, 35) := by kernel_rfl
theorem yf139_4 : tField Try.prog 139 4 = some (4, 35) := by kernel_rfl
theorem yp139 : tPlaces Try.prog 139 = some [(0, 1), (1, 1), (2, 1), (3, 1), (4, 1)] := by kernel_rfl
theorem ya140 : tAgg Try.prog 140 = some true := by kernel_rfl
theorem ys140 : tSize Try.prog 140 = some 6 := by kernel_rfl
theorem yby140 : tBytes Try.prog 140 = some 56 := by kernel_rfl
theorem yz140 : tZero Try.prog 140 = some (.agg #[.int .i64 0, .pointer none, .pointer none, .pointer none, .pointer none, .string ByteArray.empty]) := by kernel_rfl
theorem yf140_0 : tField Try.prog 140 0 = some (0, 3) := by kernel_rfl
theorem yf140_1 : tField Try.prog 140 1 = some (1, 35) := by kernel_rfl
theorem yf140_2 : tField Try.prog 140 2 = some (2, 35) := by kernel_rfl
theorem yf140_3 : tField Try.prog 140 3 = some (3, 36) := by kernel_rfl
theorem yf140_4 : tField Try.prog 140 4 = some (4, 36) := by kernel_rfl
theorem yf140_5 : tField Try.prog 140 5 = some (5, 9) := by kernel_rfl
theorem yp140 : tPlaces Try.prog 140 = some [(0, 1), (1, 1), (2, 1), (3, 1), (4, 1), (5, 1)] := by kernel_rfl
theorem ya141 : tAgg Try.prog 141 = some true := by kernel_rfl
theorem ys141 : tSize Try.prog 141 = some 6 := by kernel_rfl
theorem yby141 : tBytes Try.prog 141 = some 56 := by kernel_rfl
theorem yz141 : tZero Try.prog 141 = some (.agg #[.int .i64 0, .pointer none, .pointer none, .pointer none, .pointer none, .string ByteArray.empty]) := by kernel_rfl
theorem yf141_0 : tField Try.prog 141 0 = some (0, 3) := by kernel_rfl
theorem yf141_1 : tField Try.prog 141 1 = some (1, 35) := by kernel_rfl
theorem yf141_2 : tField Try.prog 141 2 = some (2, 35) := by kernel_rfl
theorem yf141_3 : tField Try.prog 141 3 = some (3, 36) := by kernel_rfl
theorem yf141_4 : tField Try.prog 141 4 = some (4, 36) := by kernel_rfl
theorem yf141_5 : tField Try.prog 141 5 = some (5, 9) := by kernel_rfl
theorem yp141 : tPlaces Try.prog 141 = some [(0, 1), (1, 1), (2, 1), (3, 1), (4, 1), (5, 1)] := by kernel_rfl
theorem yf147_0 : tField Try.prog 147 0 = some (0, 17) := by kernel_rfl
theorem yf147_1 : tField Try.prog 147 1 = some (1, 17) := by kernel_rfl
theorem yf147_2 : tField Try.prog 147 2 = some (2, 17) := by kernel_rfl
theorem yf147_3 : tField Try.prog 147 3 = some (3, 9) := by kernel_rfl
theorem yf150_0 : tField Try.prog 150 0 = some (0, 149) := by kernel_rfl
theorem yf160_0 : tField Try.prog 160 0 = some (0, 12) := by kernel_rfl
theorem yf160_1 : tField Try.prog 160 1 = some (1, 12) := by kernel_rfl
theorem yf160_2 : tField Try.prog 160 2 = some (2, 153) := by kernel_rfl
theorem yf160_3 : tField Try.prog 160 3 = some (3, 154) := by kernel_rfl
theorem yf160_4 : tField Try.prog 160 4 = some (4, 5) := by kernel_rfl
theorem yf160_5 : tField Try.prog 160 5 = some (5, 5) := by kernel_rfl
theorem yf160_6 : tField Try.prog 160 6 = some (6, 155) := by kernel_rfl
theorem yf160_7 : tField Try.prog 160 7 = some (7, 156) := by kernel_rfl
theorem yf160_8 : tField Try.prog 160 8 = some (8, 157) := by kernel_rfl
theorem yf160_9 : tField Try.prog 160 9 = some (9, 158) := by kernel_rfl
theorem yf160_10 : tField Try.prog 160 10 = some (10, 159) := by kernel_rfl
end Go.Proofs.Ytiipmaoonnjlpaa
