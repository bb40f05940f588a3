/- Closed facts on the types of the program, for the second executor. No conditions. -/
import Derived.Test.YtjnnmindcbgjhabSyB
import Derived.Test.YtjnnmindcbgjhabRows
import Derived.KernelRfl
set_option linter.unusedVariables false
set_option linter.unusedSimpArgs false
namespace Go.Proofs.Ytjnnmindcbgjhab
open Go Go.Sy
theorem ya2:tAgg Try.prog 2=some false:=by kernel_rfl
theorem ys2:tSize Try.prog 2=some 1:=by kernel_rfl
theorem yby2:tBytes Try.prog 2=some 8:=by kernel_rfl
theorem yz2:tZero Try.prog 2=some (.int .i64 0):=by kernel_rfl
theorem yi2:tInt Try.prog 2=some .i64:=by kernel_rfl
theorem ya3:tAgg Try.prog 3=some false:=by kernel_rfl
theorem ys3:tSize Try.prog 3=some 1:=by kernel_rfl
theorem yby3:tBytes Try.prog 3=some 8:=by kernel_rfl
theorem yz3:tZero Try.prog 3=some (.int .i64 0):=by kernel_rfl
theorem yi3:tInt Try.prog 3=some .i64:=by kernel_rfl
theorem ya4:tAgg Try.prog 4=some false:=by kernel_rfl
theorem ys4:tSize Try.prog 4=some 1:=by kernel_rfl
theorem yby4:tBytes Try.prog 4=some 1:=by kernel_rfl
theorem yz4:tZero Try.prog 4=some (.bool false):=by kernel_rfl
theorem yb4:Try.prog.underlying 4=some .bool:=by kernel_rfl
theorem ya5:tAgg Try.prog 5=some false:=by kernel_rfl
theorem ys5:tSize Try.prog 5=some 1:=by kernel_rfl
theorem yby5:tBytes Try.prog 5=some 1:=by kernel_rfl
theorem yz5:tZero Try.prog 5=some (.int .u8 0):=by kernel_rfl
theorem yi5:tInt Try.prog 5=some .u8:=by kernel_rfl
theorem yf7_0:tField Try.prog 7 0=some (0,2):=by kernel_rfl
theorem yf7_1:tField Try.prog 7 1=some (1,3):=by kernel_rfl
theorem yf7_2:tField Try.prog 7 2=some (2,4):=by kernel_rfl
theorem yf7_3:tField Try.prog 7 3=some (3,6):=by kernel_rfl
theorem ya9:tAgg Try.prog 9=some false:=by kernel_rfl
theorem ys9:tSize Try.prog 9=some 1:=by kernel_rfl
theorem yby9:tBytes Try.prog 9=some 16:=by kernel_rfl
theorem yz9:tZero Try.prog 9=some (.string ByteArray.empty):=by kernel_rfl
theorem yst9:tStr Try.prog 9=true:=by kernel_rfl
theorem yf13_0:tField Try.prog 13 0=some (0,9):=by kernel_rfl
theorem yf13_1:tField Try.prog 13 1=some (1,12):=by kernel_rfl
theorem yf18_0:tField Try.prog 18 0=some (0,17):=by kernel_rfl
theorem ya20:tAgg Try.prog 20=some false:=by kernel_rfl
theorem ys20:tSize Try.prog 20=some 1:=by kernel_rfl
theorem yby20:tBytes Try.prog 20=some 16:=by kernel_rfl
theorem yz20:tZero Try.prog 20=some (.nilIface):=by kernel_rfl
theorem ya23:tAgg Try.prog 23=some false:=by kernel_rfl
theorem ys23:tSize Try.prog 23=some 1:=by kernel_rfl
theorem yby23:tBytes Try.prog 23=some 24:=by kernel_rfl
theorem yz23:tZero Try.prog 23=some (.slice none 0 0):=by kernel_rfl
theorem ye23:tElem Try.prog 23=some 9:=by kernel_rfl
theorem ya24:tAgg Try.prog 24=some false:=by kernel_rfl
theorem ys24:tSize Try.prog 24=some 1:=by kernel_rfl
theorem yby24:tBytes Try.prog 24=some 24:=by kernel_rfl
theorem yz24:tZero Try.prog 24=some (.slice none 0 0):=by kernel_rfl
theorem ye24:tElem Try.prog 24=some 81:=by kernel_rfl
theorem ya25:tAgg Try.prog 25=some true:=by kernel_rfl
theorem ys25:tSize Try.prog 25=some 2:=by kernel_rfl
theorem yby25:tBytes Try.prog 25=some 48:=by kernel_rfl
theorem yz25:tZero Try.prog 25=some (.agg #[.slice none 0 0,.slice none 0 0]):=by kernel_rfl
theorem yf25_0:tField Try.prog 25 0=some (0,23):=by kernel_rfl
theorem yf25_1:tField Try.prog 25 1=some (1,24):=by kernel_rfl
theorem yp25:tPlaces Try.prog 25=some [(0,1),(1,1)]:=by kernel_rfl
theorem ya26:tAgg Try.prog 26=some true:=by kernel_rfl
theorem ys26:tSize Try.prog 26=some 2:=by kernel_rfl
theorem yby26:tBytes Try.prog 26=some 48:=by kernel_rfl
theorem yz26:tZero Try.prog 26=some (.agg #[.slice none 0 0,.slice none 0 0]):=by kernel_rfl
theorem yc26:tConc Try.prog 26=true:=by kernel_rfl
theorem yf26_0:tField Try.prog 26 0=some (0,23):=by kernel_rfl
theorem yf26_1:tField Try.prog 26 1=some (1,24):=by kernel_rfl
theorem yp26:tPlaces Try.prog 26=some [(0,1),(1,1)]:=by kernel_rfl
theorem ya27:tAgg Try.prog 27=some false:=by kernel_rfl
theorem ys27:tSize Try.prog 27=some 1:=by kernel_rfl
theorem yby27:tBytes Try.prog 27=some 24:=by kernel_rfl
theorem yz27:tZero Try.prog 27=some (.slice none 0 0):=by kernel_rfl
theorem ye27:tElem Try.prog 27=some 55:=by kernel_rfl
theorem ya28:tAgg Try.prog 28=some true:=by kernel_rfl
theorem ys28:tSize Try.prog 28=some 3:=by kernel_rfl
theorem yby28:tBytes Try.prog 28=some 72:=by kernel_rfl
theorem yz28:tZero Try.prog 28=some (.agg #[.slice none 0 0,.slice none 0 0,.slice none 0 0]):=by kernel_rfl
theorem yf28_0:tField Try.prog 28 0=some (0,26):=by kernel_rfl
theorem yf28_1:tField Try.prog 28 1=some (2,27):=by kernel_rfl
theorem yp28:tPlaces Try.prog 28=some [(0,2),(2,1)]:=by kernel_rfl
theorem ya29:tAgg Try.prog 29=some true:=by kernel_rfl
theorem ys29:tSize Try.prog 29=some 3:=by kernel_rfl
theorem yby29:tBytes Try.prog 29=some 72:=by kernel_rfl
theorem yz29:tZero Try.prog 29=some (.agg #[.slice none 0 0,.slice none 0 0,.slice none 0 0]):=by kernel_rfl
theorem yc29:tConc Try.prog 29=true:=by kernel_rfl
theorem yf29_0:tField Try.prog 29 0=some (0,26):=by kernel_rfl
theorem yf29_1:tField Try.prog 29 1=some (2,27):=by kernel_rfl
theorem yp29:tPlaces Try.prog 29=some [(0,2),(2,1)]:=by kernel_rfl
theorem ya31:tAgg Try.prog 31=some true:=by kernel_rfl
theorem ys31:tSize Try.prog 31=some 2:=by kernel_rfl
theorem yby31:tBytes Try.prog 31=some 32:=by kernel_rfl
theorem yz31:tZero Try.prog 31=some (.agg #[.string ByteArray.empty,.string ByteArray.empty]):=by kernel_rfl
theorem yf31_0:tField Try.prog 31 0=some (0,9):=by kernel_rfl
theorem yf31_1:tField Try.prog 31 1=some (1,9):=by kernel_rfl
theorem yp31:tPlaces Try.prog 31=some [(0,1),(1,1)]:=by kernel_rfl
theorem ya32:tAgg Try.prog 32=some true:=by kernel_rfl
theorem ys32:tSize Try.prog 32=some 2:=by kernel_rfl
theorem yby32:tBytes Try.prog 32=some 32:=by kernel_rfl
theorem yz32:tZero Try.prog 32=some (.agg #[.string ByteArray.empty,.string ByteArray.empty]):=by kernel_rfl
theorem yc32:tConc Try.prog 32=true:=by kernel_rfl
theorem yf32_0:tField Try.prog 32 0=some (0,9):=by kernel_rfl
theorem yf32_1:tField Try.prog 32 1=some (1,9):=by kernel_rfl
theorem yp32:tPlaces Try.prog 32=some [(0,1),(1,1)]:=by kernel_rfl
theorem yq32:tEq Try.prog 32=some [(0,.s),(1,.s)]:=by kernel_rfl
theorem ya33:tAgg Try.prog 33=some false:=by kernel_rfl
theorem ys33:tSize Try.prog 33=some 1:=by kernel_rfl
theorem yby33:tBytes Try.prog 33=some 24:=by kernel_rfl
theorem yz33:tZero Try.prog 33=some (.slice none 0 0):=by kernel_rfl
theorem ye33:tElem Try.prog 33=some 32:=by kernel_rfl
theorem ya34:tAgg Try.prog 34=some false:=by kernel_rfl
theorem ys34:tSize Try.prog 34=some 1:=by kernel_rfl
theorem yby34:tBytes Try.prog 34=some 24:=by kernel_rfl
theorem yz34:tZero Try.prog 34=some (.slice none 0 0):=by kernel_rfl
theorem ye34:tElem Try.prog 34=some 47:=by kernel_rfl
theorem ya35:tAgg Try.prog 35=some true:=by kernel_rfl
theorem ys35:tSize Try.prog 35=some 2:=by kernel_rfl
theorem yby35:tBytes Try.prog 35=some 16:=by kernel_rfl
theorem yz35:tZero Try.prog 35=some (.agg #[.int .i64 0,.int .i64 0]):=by kernel_rfl
theorem yf35_0:tField Try.prog 35 0=some (0,3):=by kernel_rfl
theorem yf35_1:tField Try.prog 35 1=some (1,3):=by kernel_rfl
theorem yp35:tPlaces Try.prog 35=some [(0,1),(1,1)]:=by kernel_rfl
theorem ya36:tAgg Try.prog 36=some true:=by kernel_rfl
theorem ys36:tSize Try.prog 36=some 2:=by kernel_rfl
theorem yby36:tBytes Try.prog 36=some 16:=by kernel_rfl
theorem yz36:tZero Try.prog 36=some (.agg #[.int .i64 0,.int .i64 0]):=by kernel_rfl
theorem yc36:tConc Try.prog 36=true:=by kernel_rfl
theorem yf36_0:tField Try.prog 36 0=some (0,3):=by kernel_rfl
theorem yf36_1:tField Try.prog 36 1=some (1,3):=by kernel_rfl
theorem yp36:tPlaces Try.prog 36=some [(0,1),(1,1)]:=by kernel_rfl
theorem yq36:tEq Try.prog 36=some [(0,.i),(1,.i)]:=by kernel_rfl
theorem ya37:tAgg Try.prog 37=some false:=by kernel_rfl
theorem ys37:tSize Try.prog 37=some 1:=by kernel_rfl
theorem yby37:tBytes Try.prog 37=some 24:=by kernel_rfl
theorem yz37:tZero Try.prog 37=some (.slice none 0 0):=by kernel_rfl
theorem ye37:tElem Try.prog 37=some 91:=by kernel_rfl
theorem ya38:tAgg Try.prog 38=some false:=by kernel_rfl
theorem ys38:tSize Try.prog 38=some 1:=by kernel_rfl
theorem yby38:tBytes Try.prog 38=some 24:=by kernel_rfl
theorem yz38:tZero Try.prog 38=some (.slice none 0 0):=by kernel_rfl
theorem ye38:tElem Try.prog 38=some 93:=by kernel_rfl
theorem ya39:tAgg Try.prog 39=some true:=by kernel_rfl
theorem ys39:tSize Try.prog 39=some 2:=by kernel_rfl
theorem yby39:tBytes Try.prog 39=some 48:=by kernel_rfl
theorem yz39:tZero Try.prog 39=some (.agg #[.slice none 0 0,.slice none 0 0]):=by kernel_rfl
theorem yf39_0:tField Try.prog 39 0=some (0,37):=by kernel_rfl
theorem yf39_1:tField Try.prog 39 1=some (1,38):=by kernel_rfl
theorem yp39:tPlaces Try.prog 39=some [(0,1),(1,1)]:=by kernel_rfl
theorem ya40:tAgg Try.prog 40=some true:=by kernel_rfl
theorem ys40:tSize Try.prog 40=some 2:=by kernel_rfl
theorem yby40:tBytes Try.prog 40=some 48:=by kernel_rfl
theorem yz40:tZero Try.prog 40=some (.agg #[.slice none 0 0,.slice none 0 0]):=by kernel_rfl
theorem yc40:tConc Try.prog 40=true:=by kernel_rfl
theorem yf40_0:tField Try.prog 40 0=some (0,37):=by kernel_rfl
theorem yf40_1:tField Try.prog 40 1=some (1,38):=by kernel_rfl
theorem yp40:tPlaces Try.prog 40=some [(0,1),(1,1)]:=by kernel_rfl
theorem ya41:tAgg Try.prog 41=some true:=by kernel_rfl
theorem ys41:tSize Try.prog 41=some 7:=by kernel_rfl
theorem yby41:tBytes Try.prog 41=some 96:=by kernel_rfl
theorem yz41:tZero Try.prog 41=some (.agg #[.int .i64 0,.int .i64 0,.string ByteArray.empty,.int .i64 0,.int .i64 0,.slice none 0 0,.slice none 0 0]):=by kernel_rfl
theorem yf41_0:tField Try.prog 41 0=some (0,3):=by kernel_rfl
theorem yf41_1:tField Try.prog 41 1=some (1,2):=by kernel_rfl
theorem yf41_2:tField Try.prog 41 2=some (2,9):=by kernel_rfl
theorem yf41_3:tField Try.prog 41 3=some (3,36):=by kernel_rfl
theorem yf41_4:tField Try.prog 41 4=some (5,40):=by kernel_rfl
theorem yp41:tPlaces Try.prog 41=some [(0,1),(1,1),(2,1),(3,2),(5,2)]:=by kernel_rfl
theorem ya42:tAgg Try.prog 42=some true:=by kernel_rfl
theorem ys42:tSize Try.prog 42=some 7:=by kernel_rfl
theorem yby42:tBytes Try.prog 42=some 96:=by kernel_rfl
theorem yz42:tZero Try.prog 42=some (.agg #[.int .i64 0,.int .i64 0,.string ByteArray.empty,.int .i64 0,.int .i64 0,.slice none 0 0,.slice none 0 0]):=by kernel_rfl
theorem yc42:tConc Try.prog 42=true:=by kernel_rfl
theorem yf42_0:tField Try.prog 42 0=some (0,3):=by kernel_rfl
theorem yf42_1:tField Try.prog 42 1=some (1,2):=by kernel_rfl
theorem yf42_2:tField Try.prog 42 2=some (2,9):=by kernel_rfl
theorem yf42_3:tField Try.prog 42 3=some (3,36):=by kernel_rfl
theorem yf42_4:tField Try.prog 42 4=some (5,40):=by kernel_rfl
theorem yp42:tPlaces Try.prog 42=some [(0,1),(1,1),(2,1),(3,2),(5,2)]:=by kernel_rfl
theorem ya46:tAgg Try.prog 46=some true:=by kernel_rfl
theorem ys46:tSize Try.prog 46=some 3:=by kernel_rfl
theorem yby46:tBytes Try.prog 46=some 32:=by kernel_rfl
theorem yz46:tZero Try.prog 46=some (.agg #[.bool false,.int .i64 0,.string ByteArray.empty]):=by kernel_rfl
theorem yf46_0:tField Try.prog 46 0=some (0,4):=by kernel_rfl
theorem yf46_1:tField Try.prog 46 1=some (1,2):=by kernel_rfl
theorem yf46_2:tField Try.prog 46 2=some (2,9):=by kernel_rfl
theorem yp46:tPlaces Try.prog 46=some [(0,1),(1,1),(2,1)]:=by kernel_rfl
theorem ya47:tAgg Try.prog 47=some true:=by kernel_rfl
theorem ys47:tSize Try.prog 47=some 3:=by kernel_rfl
theorem yby47:tBytes Try.prog 47=some 32:=by kernel_rfl
theorem yz47:tZero Try.prog 47=some (.agg #[.bool false,.int .i64 0,.string ByteArray.empty]):=by kernel_rfl
theorem yc47:tConc Try.prog 47=true:=by kernel_rfl
theorem yf47_0:tField Try.prog 47 0=some (0,4):=by kernel_rfl
theorem yf47_1:tField Try.prog 47 1=some (1,2):=by kernel_rfl
theorem yf47_2:tField Try.prog 47 2=some (2,9):=by kernel_rfl
theorem yp47:tPlaces Try.prog 47=some [(0,1),(1,1),(2,1)]:=by kernel_rfl
theorem yq47:tEq Try.prog 47=some [(0,.b),(1,.i),(2,.s)]:=by kernel_rfl
theorem ya52:tAgg Try.prog 52=some false:=by kernel_rfl
theorem ys52:tSize Try.prog 52=some 1:=by kernel_rfl
theorem yby52:tBytes Try.prog 52=some 24:=by kernel_rfl
theorem yz52:tZero Try.prog 52=some (.slice none 0 0):=by kernel_rfl
theorem ye52:tElem Try.prog 52=some 85:=by kernel_rfl
theorem ya53:tAgg Try.prog 53=some false:=by kernel_rfl
theorem ys53:tSize Try.prog 53=some 1:=by kernel_rfl
theorem yby53:tBytes Try.prog 53=some 24:=by kernel_rfl
theorem yz53:tZero Try.prog 53=some (.slice none 0 0):=by kernel_rfl
theorem ye53:tElem Try.prog 53=some 109:=by kernel_rfl
theorem ya54:tAgg Try.prog 54=some true:=by kernel_rfl
theorem ys54:tSize Try.prog 54=some 4:=by kernel_rfl
theorem yby54:tBytes Try.prog 54=some 88:=by kernel_rfl
theorem yz54:tZero Try.prog 54=some (.agg #[.string ByteArray.empty,.slice none 0 0,.slice none 0 0,.slice none 0 0]):=by kernel_rfl
theorem yf54_0:tField Try.prog 54 0=some (0,9):=by kernel_rfl
theorem yf54_1:tField Try.prog 54 1=some (1,52):=by kernel_rfl
theorem yf54_2:tField Try.prog 54 2=some (2,52):=by kernel_rfl
theorem yf54_3:tField Try.prog 54 3=some (3,53):=by kernel_rfl
theorem yp54:tPlaces Try.prog 54=some [(0,1),(1,1),(2,1),(3,1)]:=by kernel_rfl
theorem ya55:tAgg Try.prog 55=some true:=by kernel_rfl
theorem ys55:tSize Try.prog 55=some 4:=by kernel_rfl
theorem yby55:tBytes Try.prog 55=some 88:=by kernel_rfl
theorem yz55:tZero Try.prog 55=some (.agg #[.string ByteArray.empty,.slice none 0 0,.slice none 0 0,.slice none 0 0]):=by kernel_rfl
theorem yc55:tConc Try.prog 55=true:=by kernel_rfl
theorem yf55_0:tField Try.prog 55 0=some (0,9):=by kernel_rfl
theorem yf55_1:tField Try.prog 55 1=some (1,52):=by kernel_rfl
theorem yf55_2:tField Try.prog 55 2=some (2,52):=by kernel_rfl
theorem yf55_3:tField Try.prog 55 3=some (3,53):=by kernel_rfl
theorem yp55:tPlaces Try.prog 55=some [(0,1),(1,1),(2,1),(3,1)]:=by kernel_rfl
theorem ya59:tAgg Try.prog 59=some false:=by kernel_rfl
theorem ys59:tSize Try.prog 59=some 1:=by kernel_rfl
theorem yby59:tBytes Try.prog 59=some 24:=by kernel_rfl
theorem yz59:tZero Try.prog 59=some (.slice none 0 0):=by kernel_rfl
theorem ye59:tElem Try.prog 59=some 2:=by kernel_rfl
theorem ya60:tAgg Try.prog 60=some false:=by kernel_rfl
theorem ys60:tSize Try.prog 60=some 1:=by kernel_rfl
theorem yby60:tBytes Try.prog 60=some 24:=by kernel_rfl
theorem yz60:tZero Try.prog 60=some (.slice none 0 0):=by kernel_rfl
theorem ye60:tElem Try.prog 60=some 34:=by kernel_rfl
theorem ya67:tAgg Try.prog 67=some false:=by kernel_rfl
theorem ys67:tSize Try.prog 67=some 1:=by kernel_rfl
theorem yby67:tBytes Try.prog 67=some 24:=by kernel_rfl
theorem yz67:tZero Try.prog 67=some (.slice none 0 0):=by kernel_rfl
theorem ye67:tElem Try.prog 67=some 78:=by kernel_rfl
theorem ya70:tAgg Try.prog 70=some false:=by kernel_rfl
theorem ys70:tSize Try.prog 70=some 1:=by kernel_rfl
theorem yby70:tBytes Try.prog 70=some 8:=by kernel_rfl
theorem yz70:tZero Try.prog 70=some (.pointer none):=by kernel_rfl
theorem ypt70:tPtr Try.prog 70=some 72:=by kernel_rfl
theorem ya71:tAgg Try.prog 71=some true:=by kernel_rfl
theorem ys71:tSize Try.prog 71=some 7:=by kernel_rfl
theorem yby71:tBytes Try.prog 71=some 72:=by kernel_rfl
theorem yz71:tZero Try.prog 71=some (.agg #[.slice none 0 0,.int .i64 0,.int .i64 0,.int .i64 0,.int .i64 0,.int .i64 0,.int .i64 0]):=by kernel_rfl
theorem yf71_0:tField Try.prog 71 0=some (0,67):=by kernel_rfl
theorem yf71_1:tField Try.prog 71 1=some (1,3):=by kernel_rfl
theorem yf71_2:tField Try.prog 71 2=some (2,3):=by kernel_rfl
theorem yf71_3:tField Try.prog 71 3=some (3,3):=by kernel_rfl
theorem yf71_4:tField Try.prog 71 4=some (4,3):=by kernel_rfl
theorem yf71_5:tField Try.prog 71 5=some (5,3):=by kernel_rfl
theorem yf71_6:tField Try.prog 71 6=some (6,3):=by kernel_rfl
theorem yp71:tPlaces Try.prog 71=some [(0,1),(1,1),(2,1),(3,1),(4,1),(5,1),(6,1)]:=by kernel_rfl
theorem ya72:tAgg Try.prog 72=some true:=by kernel_rfl
theorem ys72:tSize Try.prog 72=some 7:=by kernel_rfl
theorem yby72:tBytes Try.prog 72=some 72:=by kernel_rfl
theorem yz72:tZero Try.prog 72=some (.agg #[.slice none 0 0,.int .i64 0,.int .i64 0,.int .i64 0,.int .i64 0,.int .i64 0,.int .i64 0]):=by kernel_rfl
theorem yc72:tConc Try.prog 72=true:=by kernel_rfl
theorem yf72_0:tField Try.prog 72 0=some (0,67):=by kernel_rfl
theorem yf72_1:tField Try.prog 72 1=some (1,3):=by kernel_rfl
theorem yf72_2:tField Try.prog 72 2=some (2,3):=by kernel_rfl
theorem yf72_3:tField Try.prog 72 3=some (3,3):=by kernel_rfl
theorem yf72_4:tField Try.prog 72 4=some (4,3):=by kernel_rfl
theorem yf72_5:tField Try.prog 72 5=some (5,3):=by kernel_rfl
theorem yf72_6:tField Try.prog 72 6=some (6,3):=by kernel_rfl
theorem yp72:tPlaces Try.prog 72=some [(0,1),(1,1),(2,1),(3,1),(4,1),(5,1),(6,1)]:=by kernel_rfl
theorem ya77:tAgg Try.prog 77=some true:=by kernel_rfl
theorem ys77:tSize Try.prog 77=some 3:=by kernel_rfl
theorem yby77:tBytes Try.prog 77=some 32:=by kernel_rfl
theorem yz77:tZero Try.prog 77=some (.agg #[.int .i64 0,.string ByteArray.empty,.int .i64 0]):=by kernel_rfl
theorem yf77_0:tField Try.prog 77 0=some (0,3):=by kernel_rfl
theorem yf77_1:tField Try.prog 77 1=some (1,9):=by kernel_rfl
theorem yf77_2:tField Try.prog 77 2=some (2,3):=by kernel_rfl
theorem yp77:tPlaces Try.prog 77=some [(0,1),(1,1),(2,1)]:=by kernel_rfl
theorem ya78:tAgg Try.prog 78=some true:=by kernel_rfl
theorem ys78:tSize Try.prog 78=some 3:=by kernel_rfl
theorem yby78:tBytes Try.prog 78=some 32:=by kernel_rfl
theorem yz78:tZero Try.prog 78=some (.agg #[.int .i64 0,.string ByteArray.empty,.int .i64 0]):=by kernel_rfl
theorem yc78:tConc Try.prog 78=true:=by kernel_rfl
theorem yf78_0:tField Try.prog 78 0=some (0,3):=by kernel_rfl
theorem yf78_1:tField Try.prog 78 1=some (1,9):=by kernel_rfl
theorem yf78_2:tField Try.prog 78 2=some (2,3):=by kernel_rfl
theorem yp78:tPlaces Try.prog 78=some [(0,1),(1,1),(2,1)]:=by kernel_rfl
theorem yq78:tEq Try.prog 78=some [(0,.i),(1,.s),(2,.i)]:=by kernel_rfl
theorem ya80:tAgg Try.prog 80=some true:=by kernel_rfl
theorem ys80:tSize Try.prog 80=some 2:=by kernel_rfl
theorem yby80:tBytes Try.prog 80=some 24:=by kernel_rfl
theorem yz80:tZero Try.prog 80=some (.agg #[.string ByteArray.empty,.int .i64 0]):=by kernel_rfl
theorem yf80_0:tField Try.prog 80 0=some (0,9):=by kernel_rfl
theorem yf80_1:tField Try.prog 80 1=some (1,3):=by kernel_rfl
theorem yp80:tPlaces Try.prog 80=some [(0,1),(1,1)]:=by kernel_rfl
theorem ya81:tAgg Try.prog 81=some true:=by kernel_rfl
theorem ys81:tSize Try.prog 81=some 2:=by kernel_rfl
theorem yby81:tBytes Try.prog 81=some 24:=by kernel_rfl
theorem yz81:tZero Try.prog 81=some (.agg #[.string ByteArray.empty,.int .i64 0]):=by kernel_rfl
theorem yc81:tConc Try.prog 81=true:=by kernel_rfl
theorem yf81_0:tField Try.prog 81 0=some (0,9):=by kernel_rfl
theorem yf81_1:tField Try.prog 81 1=some (1,3):=by kernel_rfl
theorem yp81:tPlaces Try.prog 81=some [(0,1),(1,1)]:=by kernel_rfl
theorem yq81:tEq Try.prog 81=some [(0,.s),(1,.i)]:=by kernel_rfl
theorem ya84:tAgg Try.prog 84=some true:=by kernel_rfl
theorem ys84:tSize Try.prog 84=some 2:=by kernel_rfl
theorem yby84:tBytes Try.prog 84=some 24:=by kernel_rfl
theorem yz84:tZero Try.prog 84=some (.agg #[.string ByteArray.empty,.bool false]):=by kernel_rfl
theorem yf84_0:tField Try.prog 84 0=some (0,9):=by kernel_rfl
theorem yf84_1:tField Try.prog 84 1=some (1,4):=by kernel_rfl
theorem yp84:tPlaces Try.prog 84=some [(0,1),(1,1)]:=by kernel_rfl
theorem ya85:tAgg Try.prog 85=some true:=by kernel_rfl
theorem ys85:tSize Try.prog 85=some 2:=by kernel_rfl
theorem yby85:tBytes Try.prog 85=some 24:=by kernel_rfl
theorem yz85:tZero Try.prog 85=some (.agg #[.string ByteArray.empty,.bool false]):=by kernel_rfl
theorem yc85:tConc Try.prog 85=true:=by kernel_rfl
theorem yf85_0:tField Try.prog 85 0=some (0,9):=by kernel_rfl
theorem yf85_1:tField Try.prog 85 1=some (1,4):=by kernel_rfl
theorem yp85:tPlaces Try.prog 85=some [(0,1),(1,1)]:=by kernel_rfl
theorem yq85:tEq Try.prog 85=some [(0,.s),(1,.b)]:=by kernel_rfl
theorem ya90:tAgg Try.prog 90=some true:=by kernel_rfl
theorem ys90:tSize Try.prog 90=some 2:=by kernel_rfl
theorem yby90:tBytes Try.prog 90=some 24:=by kernel_rfl
theorem yz90:tZero Try.prog 90=some (.agg #[.string ByteArray.empty,.int .i64 0]):=by kernel_rfl
theorem yf90_0:tField Try.prog 90 0=some (0,9):=by kernel_rfl
theorem yf90_1:tField Try.prog 90 1=some (1,2):=by kernel_rfl
theorem yp90:tPlaces Try.prog 90=some [(0,1),(1,1)]:=by kernel_rfl
theorem ya91:tAgg Try.prog 91=some true:=by kernel_rfl
theorem ys91:tSize Try.prog 91=some 2:=by kernel_rfl
theorem yby91:tBytes Try.prog 91=some 24:=by kernel_rfl
theorem yz91:tZero Try.prog 91=some (.agg #[.string ByteArray.empty,.int .i64 0]):=by kernel_rfl
theorem yc91:tConc Try.prog 91=true:=by kernel_rfl
theorem yf91_0:tField Try.prog 91 0=some (0,9):=by kernel_rfl
theorem yf91_1:tField Try.prog 91 1=some (1,2):=by kernel_rfl
theorem yp91:tPlaces Try.prog 91=some [(0,1),(1,1)]:=by kernel_rfl
theorem yq91:tEq Try.prog 91=some [(0,.s),(1,.i)]:=by kernel_rfl
theorem ya92:tAgg Try.prog 92=some true:=by kernel_rfl
theorem ys92:tSize Try.prog 92=some 2:=by kernel_rfl
theorem yby92:tBytes Try.prog 92=some 40:=by kernel_rfl
theorem yz92:tZero Try.prog 92=some (.agg #[.string ByteArray.empty,.slice none 0 0]):=by kernel_rfl
theorem yf92_0:tField Try.prog 92 0=some (0,9):=by kernel_rfl
theorem yf92_1:tField Try.prog 92 1=some (1,59):=by kernel_rfl
theorem yp92:tPlaces Try.prog 92=some [(0,1),(1,1)]:=by kernel_rfl
theorem ya93:tAgg Try.prog 93=some true:=by kernel_rfl
theorem ys93:tSize Try.prog 93=some 2:=by kernel_rfl
theorem yby93:tBytes Try.prog 93=some 40:=by kernel_rfl
theorem yz93:tZero Try.prog 93=some (.agg #[.string ByteArray.empty,.slice none 0 0]):=by kernel_rfl
theorem yc93:tConc Try.prog 93=true:=by kernel_rfl
theorem yf93_0:tField Try.prog 93 0=some (0,9):=by kernel_rfl
theorem yf93_1:tField Try.prog 93 1=some (1,59):=by kernel_rfl
theorem yp93:tPlaces Try.prog 93=some [(0,1),(1,1)]:=by kernel_rfl
theorem ya94:tAgg Try.prog 94=some false:=by kernel_rfl
theorem ys94:tSize Try.prog 94=some 1:=by kernel_rfl
theorem yby94:tBytes Try.prog 94=some 8:=by kernel_rfl
theorem yz94:tZero Try.prog 94=some (.pointer none):=by kernel_rfl
theorem ypt94:tPtr Try.prog 94=some 100:=by kernel_rfl
theorem ya95:tAgg Try.prog 95=some false:=by kernel_rfl
theorem ys95:tSize Try.prog 95=some 1:=by kernel_rfl
theorem yby95:tBytes Try.prog 95=some 8:=by kernel_rfl
theorem yz95:tZero Try.prog 95=some (.map none):=by kernel_rfl
theorem ymp95:tMap Try.prog 95=some (9,3):=by kernel_rfl
theorem ya97:tAgg Try.prog 97=some false:=by kernel_rfl
theorem ys97:tSize Try.prog 97=some 1:=by kernel_rfl
theorem yby97:tBytes Try.prog 97=some 8:=by kernel_rfl
theorem yz97:tZero Try.prog 97=some (.nilFunc):=by kernel_rfl
theorem ya99:tAgg Try.prog 99=some true:=by kernel_rfl
theorem ys99:tSize Try.prog 99=some 17:=by kernel_rfl
theorem yby99:tBytes Try.prog 99=some 256:=by kernel_rfl
theorem yz99:tZero Try.prog 99=some (.agg #[.slice none 0 0,.slice none 0 0,.slice none 0 0,.int .i64 0,.int .i64 0,.map none,.map none,.map none,.slice none 0 0,.slice none 0 0,.int .i64 0,.int .i64 0,.string ByteArray.empty,.int .i64 0,.int .i64 0,.slice none 0 0,.slice none 0 0]):=by kernel_rfl
theorem yf99_0:tField Try.prog 99 0=some (0,29):=by kernel_rfl
theorem yf99_1:tField Try.prog 99 1=some (3,3):=by kernel_rfl
theorem yf99_2:tField Try.prog 99 2=some (4,3):=by kernel_rfl
theorem yf99_3:tField Try.prog 99 3=some (5,95):=by kernel_rfl
theorem yf99_4:tField Try.prog 99 4=some (6,95):=by kernel_rfl
theorem yf99_5:tField Try.prog 99 5=some (7,95):=by kernel_rfl
theorem yf99_6:tField Try.prog 99 6=some (8,40):=by kernel_rfl
theorem yf99_7:tField Try.prog 99 7=some (10,42):=by kernel_rfl
theorem yp99:tPlaces Try.prog 99=some [(0,3),(3,1),(4,1),(5,1),(6,1),(7,1),(8,2),(10,7)]:=by kernel_rfl
theorem ya100:tAgg Try.prog 100=some true:=by kernel_rfl
theorem ys100:tSize Try.prog 100=some 17:=by kernel_rfl
theorem yby100:tBytes Try.prog 100=some 256:=by kernel_rfl
theorem yz100:tZero Try.prog 100=some (.agg #[.slice none 0 0,.slice none 0 0,.slice none 0 0,.int .i64 0,.int .i64 0,.map none,.map none,.map none,.slice none 0 0,.slice none 0 0,.int .i64 0,.int .i64 0,.string ByteArray.empty,.int .i64 0,.int .i64 0,.slice none 0 0,.slice none 0 0]):=by kernel_rfl
theorem yc100:tConc Try.prog 100=true:=by kernel_rfl
theorem yf100_0:tField Try.prog 100 0=some (0,29):=by kernel_rfl
theorem yf100_1:tField Try.prog 100 1=some (3,3):=by kernel_rfl
theorem yf100_2:tField Try.prog 100 2=some (4,3):=by kernel_rfl
theorem yf100_3:tField Try.prog 100 3=some (5,95):=by kernel_rfl
theorem yf100_4:tField Try.prog 100 4=some (6,95):=by kernel_rfl
theorem yf100_5:tField Try.prog 100 5=some (7,95):=by kernel_rfl
theorem yf100_6:tField Try.prog 100 6=some (8,40):=by kernel_rfl
theorem yf100_7:tField Try.prog 100 7=some (10,42):=by kernel_rfl
theorem yp100:tPlaces Try.prog 100=some [(0,3),(3,1),(4,1),(5,1),(6,1),(7,1),(8,2),(10,7)]:=by kernel_rfl
theorem ya103:tAgg Try.prog 103=some false:=by kernel_rfl
theorem ys103:tSize Try.prog 103=some 1:=by kernel_rfl
theorem yby103:tBytes Try.prog 103=some 8:=by kernel_rfl
theorem yz103:tZero Try.prog 103=some (.int .u64 0):=by kernel_rfl
theorem yi103:tInt Try.prog 103=some .u64:=by kernel_rfl
theorem ya105:tAgg Try.prog 105=some false:=by kernel_rfl
theorem ys105:tSize Try.prog 105=some 1:=by kernel_rfl
theorem yby105:tBytes Try.prog 105=some 8:=by kernel_rfl
theorem yz105:tZero Try.prog 105=some (.pointer none):=by kernel_rfl
theorem ypt105:tPtr Try.prog 105=some 126:=by kernel_rfl
theorem ya106:tAgg Try.prog 106=some false:=by kernel_rfl
theorem ys106:tSize Try.prog 106=some 1:=by kernel_rfl
theorem yby106:tBytes Try.prog 106=some 8:=by kernel_rfl
theorem yz106:tZero Try.prog 106=some (.pointer none):=by kernel_rfl
theorem ypt106:tPtr Try.prog 106=some 138:=by kernel_rfl
theorem ya107:tAgg Try.prog 107=some false:=by kernel_rfl
theorem ys107:tSize Try.prog 107=some 1:=by kernel_rfl
theorem yby107:tBytes Try.prog 107=some 24:=by kernel_rfl
theorem yz107:tZero Try.prog 107=some (.slice none 0 0):=by kernel_rfl
theorem ye107:tElem Try.prog 107=some 128:=by kernel_rfl
theorem ya108:tAgg Try.prog 108=some true:=by kernel_rfl
theorem ys108:tSize Try.prog 108=some 10:=by kernel_rfl
theorem yby108:tBytes Try.prog 108=some 144:=by kernel_rfl
theorem yz108:tZero Try.prog 108=some (.agg #[.int .i64 0,.string ByteArray.empty,.string ByteArray.empty,.pointer none,.pointer none,.pointer none,.slice none 0 0,.slice none 0 0,.slice none 0 0,.int .i64 0]):=by kernel_rfl
theorem yf108_0:tField Try.prog 108 0=some (0,3):=by kernel_rfl
theorem yf108_1:tField Try.prog 108 1=some (1,9):=by kernel_rfl
theorem yf108_2:tField Try.prog 108 2=some (2,9):=by kernel_rfl
theorem yf108_3:tField Try.prog 108 3=some (3,105):=by kernel_rfl
theorem yf108_4:tField Try.prog 108 4=some (4,105):=by kernel_rfl
theorem yf108_5:tField Try.prog 108 5=some (5,106):=by kernel_rfl
theorem yf108_6:tField Try.prog 108 6=some (6,107):=by kernel_rfl
theorem yf108_7:tField Try.prog 108 7=some (7,53):=by kernel_rfl
theorem yf108_8:tField Try.prog 108 8=some (8,53):=by kernel_rfl
theorem yf108_9:tField Try.prog 108 9=some (9,3):=by kernel_rfl
theorem yp108:tPlaces Try.prog 108=some [(0,1),(1,1),(2,1),(3,1),(4,1),(5,1),(6,1),(7,1),(8,1),(9,1)]:=by kernel_rfl
theorem ya109:tAgg Try.prog 109=some true:=by kernel_rfl
theorem ys109:tSize Try.prog 109=some 10:=by kernel_rfl
theorem yby109:tBytes Try.prog 109=some 144:=by kernel_rfl
theorem yz109:tZero Try.prog 109=some (.agg #[.int .i64 0,.string ByteArray.empty,.string ByteArray.empty,.pointer none,.pointer none,.pointer none,.slice none 0 0,.slice none 0 0,.slice none 0 0,.int .i64 0]):=by kernel_rfl
theorem yc109:tConc Try.prog 109=true:=by kernel_rfl
theorem yf109_0:tField Try.prog 109 0=some (0,3):=by kernel_rfl
theorem yf109_1:tField Try.prog 109 1=some (1,9):=by kernel_rfl
theorem yf109_2:tField Try.prog 109 2=some (2,9):=by kernel_rfl
theorem yf109_3:tField Try.prog 109 3=some (3,105):=by kernel_rfl
theorem yf109_4:tField Try.prog 109 4=some (4,105):=by kernel_rfl
theorem yf109_5:tField Try.prog 109 5=some (5,106):=by kernel_rfl
theorem yf109_6:tField Try.prog 109 6=some (6,107):=by kernel_rfl
theorem yf109_7:tField Try.prog 109 7=some (7,53):=by kernel_rfl
theorem yf109_8:tField Try.prog 109 8=some (8,53):=by kernel_rfl
theorem yf109_9:tField Try.prog 109 9=some (9,3):=by kernel_rfl
theorem yp109:tPlaces Try.prog 109=some [(0,1),(1,1),(2,1),(3,1),(4,1),(5,1),(6,1),(7,1),(8,1),(9,1)]:=by kernel_rfl
theorem ya122:tAgg Try.prog 122=some false:=by kernel_rfl
theorem ys122:tSize Try.prog 122=some 1:=by kernel_rfl
theorem yby122:tBytes Try.prog 122=some 8:=by kernel_rfl
theorem yz122:tZero Try.prog 122=some (.pointer none):=by kernel_rfl
theorem ypt122:tPtr Try.prog 122=some 109:=by kernel_rfl
theorem ya125:tAgg Try.prog 125=some true:=by kernel_rfl
theorem ys125:tSize Try.prog 125=some 5:=by kernel_rfl
theorem yby125:tBytes Try.prog 125=some 48:=by kernel_rfl
theorem yz125:tZero Try.prog 125=some (.agg #[.int .i64 0,.int .i64 0,.string ByteArray.empty,.pointer none,.pointer none]):=by kernel_rfl
theorem yf125_0:tField Try.prog 125 0=some (0,3):=by kernel_rfl
theorem yf125_1:tField Try.prog 125 1=some (1,2):=by kernel_rfl
theorem yf125_2:tField Try.prog 125 2=some (2,9):=by kernel_rfl
theorem yf125_3:tField Try.prog 125 3=some (3,105):=by kernel_rfl
theorem yf125_4:tField Try.prog 125 4=some (4,105):=by kernel_rfl
theorem yp125:tPlaces Try.prog 125=some [(0,1),(1,1),(2,1),(3,1),(4,1)]:=by kernel_rfl
theorem ya126:tAgg Try.prog 126=some true:=by kernel_rfl
theorem ys126:tSize Try.prog 126=some 5:=by kernel_rfl
theorem yby126:tBytes Try.prog 126=some 48:=by kernel_rfl
theorem yz126:tZero Try.prog 126=some (.agg #[.int .i64 0,.int .i64 0,.string ByteArray.empty,.pointer none,.pointer none]):=by kernel_rfl
theorem yc126:tConc Try.prog 126=true:=by kernel_rfl
theorem yf126_0:tField Try.prog 126 0=some (0,3):=by kernel_rfl
theorem yf126_1:tField Try.prog 126 1=some (1,2):=by kernel_rfl
theorem yf126_2:tField Try.prog 126 2=some (2,9):=by kernel_rfl
theorem yf126_3:tField Try.prog 126 3=some (3,105):=by kernel_rfl
theorem yf126_4:tField Try.prog 126 4=some (4,105):=by kernel_rfl
theorem yp126:tPlaces Try.prog 126=some [(0,1),(1,1),(2,1),(3,1),(4,1)]:=by kernel_rfl
theorem ya127:tAgg Try.prog 127=some true:=by kernel_rfl
theorem ys127:tSize Try.prog 127=some 3:=by kernel_rfl
theorem yby127:tBytes Try.prog 127=some 32:=by kernel_rfl
theorem yz127:tZero Try.prog 127=some (.agg #[.bool false,.string ByteArray.empty,.pointer none]):=by kernel_rfl
theorem yf127_0:tField Try.prog 127 0=some (0,4):=by kernel_rfl
theorem yf127_1:tField Try.prog 127 1=some (1,9):=by kernel_rfl
theorem yf127_2:tField Try.prog 127 2=some (2,105):=by kernel_rfl
theorem yp127:tPlaces Try.prog 127=some [(0,1),(1,1),(2,1)]:=by kernel_rfl
theorem ya128:tAgg Try.prog 128=some true:=by kernel_rfl
theorem ys128:tSize Try.prog 128=some 3:=by kernel_rfl
theorem yby128:tBytes Try.prog 128=some 32:=by kernel_rfl
theorem yz128:tZero Try.prog 128=some (.agg #[.bool false,.string ByteArray.empty,.pointer none]):=by kernel_rfl
theorem yc128:tConc Try.prog 128=true:=by kernel_rfl
theorem yf128_0:tField Try.prog 128 0=some (0,4):=by kernel_rfl
theorem yf128_1:tField Try.prog 128 1=some (1,9):=by kernel_rfl
theorem yf128_2:tField Try.prog 128 2=some (2,105):=by kernel_rfl
theorem yp128:tPlaces Try.prog 128=some [(0,1),(1,1),(2,1)]:=by kernel_rfl
theorem ya130:tAgg Try.prog 130=some true:=by kernel_rfl
theorem ys130:tSize Try.prog 130=some 0:=by kernel_rfl
theorem yby130:tBytes Try.prog 130=some 0:=by kernel_rfl
theorem yz130:tZero Try.prog 130=some (.agg #[]):=by kernel_rfl
theorem yp130:tPlaces Try.prog 130=some []:=by kernel_rfl
theorem ya131:tAgg Try.prog 131=some true:=by kernel_rfl
theorem ys131:tSize Try.prog 131=some 0:=by kernel_rfl
theorem yby131:tBytes Try.prog 131=some 0:=by kernel_rfl
theorem yz131:tZero Try.prog 131=some (.agg #[]):=by kernel_rfl
theorem yc131:tConc Try.prog 131=true:=by kernel_rfl
theorem yp131:tPlaces Try.prog 131=some []:=by kernel_rfl
theorem ya132:tAgg Try.prog 132=some false:=by kernel_rfl
theorem ys132:tSize Try.prog 132=some 1:=by kernel_rfl
theorem yby132:tBytes Try.prog 132=some 8:=by kernel_rfl
theorem yz132:tZero Try.prog 132=some (.pointer none):=by kernel_rfl
theorem ypt132:tPtr Try.prog 132=some 135:=by kernel_rfl
theorem ya133:tAgg Try.prog 133=some false:=by kernel_rfl
theorem ys133:tSize Try.prog 133=some 1:=by kernel_rfl
theorem yby133:tBytes Try.prog 133=some 8:=by kernel_rfl
theorem yz133:tZero Try.prog 133=some (.map none):=by kernel_rfl
theorem ymp133:tMap Try.prog 133=some (9,47):=by kernel_rfl
theorem ya134:tAgg Try.prog 134=some true:=by kernel_rfl
theorem ys134:tSize Try.prog 134=some 4:=by kernel_rfl
theorem yby134:tBytes Try.prog 134=some 40:=by kernel_rfl
theorem yz134:tZero Try.prog 134=some (.agg #[.pointer none,.string ByteArray.empty,.map none,.int .i64 0]):=by kernel_rfl
theorem yf134_0:tField Try.prog 134 0=some (0,94):=by kernel_rfl
theorem yf134_1:tField Try.prog 134 1=some (1,9):=by kernel_rfl
theorem yf134_2:tField Try.prog 134 2=some (2,133):=by kernel_rfl
theorem yf134_3:tField Try.prog 134 3=some (3,2):=by kernel_rfl
theorem yp134:tPlaces Try.prog 134=some [(0,1),(1,1),(2,1),(3,1)]:=by kernel_rfl
theorem ya135:tAgg Try.prog 135=some true:=by kernel_rfl
theorem ys135:tSize Try.prog 135=some 4:=by kernel_rfl
theorem yby135:tBytes Try.prog 135=some 40:=by kernel_rfl
theorem yz135:tZero Try.prog 135=some (.agg #[.pointer none,.string ByteArray.empty,.map none,.int .i64 0]):=by kernel_rfl
theorem yc135:tConc Try.prog 135=true:=by kernel_rfl
theorem yf135_0:tField Try.prog 135 0=some (0,94):=by kernel_rfl
theorem yf135_1:tField Try.prog 135 1=some (1,9):=by kernel_rfl
theorem yf135_2:tField Try.prog 135 2=some (2,133):=by kernel_rfl
theorem yf135_3:tField Try.prog 135 3=some (3,2):=by kernel_rfl
theorem yp135:tPlaces Try.prog 135=some [(0,1),(1,1),(2,1),(3,1)]:=by kernel_rfl
theorem ya137:tAgg Try.prog 137=some true:=by kernel_rfl
theorem ys137:tSize Try.prog 137=some 6:=by kernel_rfl
theorem yby137:tBytes Try.prog 137=some 56:=by kernel_rfl
theorem yz137:tZero Try.prog 137=some (.agg #[.int .i64 0,.pointer none,.pointer none,.pointer none,.pointer none,.string ByteArray.empty]):=by kernel_rfl
theorem yf137_0:tField Try.prog 137 0=some (0,3):=by kernel_rfl
theorem yf137_1:tField Try.prog 137 1=some (1,105):=by kernel_rfl
theorem yf137_2:tField Try.prog 137 2=some (2,105):=by kernel_rfl
theorem yf137_3:tField Try.prog 137 3=some (3,106):=by kernel_rfl
theorem yf137_4:tField Try.prog 137 4=some (4,106):=by kernel_rfl
theorem yf137_5:tField Try.prog 137 5=some (5,9):=by kernel_rfl
theorem yp137:tPlaces Try.prog 137=some [(0,1),(1,1),(2,1),(3,1),(4,1),(5,1)]:=by kernel_rfl
theorem ya138:tAgg Try.prog 138=some true:=by kernel_rfl
theorem ys138:tSize Try.prog 138=some 6:=by kernel_rfl
theorem yby138:tBytes Try.prog 138=some 56:=by kernel_rfl
theorem yz138:tZero Try.prog 138=some (.agg #[.int .i64 0,.pointer none,.pointer none,.pointer none,.pointer none,.string ByteArray.empty]):=by kernel_rfl
theorem yc138:tConc Try.prog 138=true:=by kernel_rfl
theorem yf138_0:tField Try.prog 138 0=some (0,3):=by kernel_rfl
theorem yf138_1:tField Try.prog 138 1=some (1,105):=by kernel_rfl
theorem yf138_2:tField Try.prog 138 2=some (2,105):=by kernel_rfl
theorem yf138_3:tField Try.prog 138 3=some (3,106):=by kernel_rfl
theorem yf138_4:tField Try.prog 138 4=some (4,106):=by kernel_rfl
theorem yf138_5:tField Try.prog 138 5=some (5,9):=by kernel_rfl
theorem yp138:tPlaces Try.prog 138=some [(0,1),(1,1),(2,1),(3,1),(4,1),(5,1)]:=by kernel_rfl
theorem ya143:tAgg Try.prog 143=some false:=by kernel_rfl
theorem ys143:tSize Try.prog 143=some 1:=by kernel_rfl
theorem yby143:tBytes Try.prog 143=some 8:=by kernel_rfl
theorem yz143:tZero Try.prog 143=some (.pointer none):=by kernel_rfl
theorem ypt143:tPtr Try.prog 143=some 91:=by kernel_rfl
theorem ya145:tAgg Try.prog 145=some false:=by kernel_rfl
theorem ys145:tSize Try.prog 145=some 1:=by kernel_rfl
theorem yby145:tBytes Try.prog 145=some 8:=by kernel_rfl
theorem yz145:tZero Try.prog 145=some (.pointer none):=by kernel_rfl
theorem ypt145:tPtr Try.prog 145=some 2:=by kernel_rfl
theorem yf150_0:tField Try.prog 150 0=some (0,17):=by kernel_rfl
theorem yf150_1:tField Try.prog 150 1=some (1,17):=by kernel_rfl
theorem yf150_2:tField Try.prog 150 2=some (2,17):=by kernel_rfl
theorem yf150_3:tField Try.prog 150 3=some (3,9):=by kernel_rfl
theorem yf153_0:tField Try.prog 153 0=some (0,152):=by kernel_rfl
theorem yf163_0:tField Try.prog 163 0=some (0,12):=by kernel_rfl
theorem yf163_1:tField Try.prog 163 1=some (1,12):=by kernel_rfl
theorem yf163_2:tField Try.prog 163 2=some (2,156):=by kernel_rfl
theorem yf163_3:tField Try.prog 163 3=some (3,157):=by kernel_rfl
theorem yf163_4:tField Try.prog 163 4=some (4,5):=by kernel_rfl
theorem yf163_5:tField Try.prog 163 5=some (5,5):=by kernel_rfl
theorem yf163_6:tField Try.prog 163 6=some (6,158):=by kernel_rfl
theorem yf163_7:tField Try.prog 163 7=some (7,159):=by kernel_rfl
theorem yf163_8:tField Try.prog 163 8=some (8,160):=by kernel_rfl
theorem yf163_9:tField Try.prog 163 9=some (9,161):=by kernel_rfl
theorem yf163_10:tField Try.prog 163 10=some (10,162):=by kernel_rfl
end Go.Proofs.Ytjnnmindcbgjhab
