/- Closed facts on the types of the program, for the second executor. No conditions. -/
import Derived.Test.YtodppgiaimihfabGreatDoorSyB
import Derived.Test.YtodppgiaimihfabGreatDoorRows
import Derived.KernelRfl
set_option linter.unusedVariables false
set_option linter.unusedSimpArgs false
namespace Go.Proofs.YtodppgiaimihfabGreatDoor
open Go Go.Sy
theorem ya2:tAgg Tryz.prog 2=some false:=by kernel_rfl
theorem ys2:tSize Tryz.prog 2=some 1:=by kernel_rfl
theorem yby2:tBytes Tryz.prog 2=some 8:=by kernel_rfl
theorem yz2:tZero Tryz.prog 2=some (.int .i64 0):=by kernel_rfl
theorem yi2:tInt Tryz.prog 2=some .i64:=by kernel_rfl
theorem ya3:tAgg Tryz.prog 3=some false:=by kernel_rfl
theorem ys3:tSize Tryz.prog 3=some 1:=by kernel_rfl
theorem yby3:tBytes Tryz.prog 3=some 8:=by kernel_rfl
theorem yz3:tZero Tryz.prog 3=some (.int .i64 0):=by kernel_rfl
theorem yi3:tInt Tryz.prog 3=some .i64:=by kernel_rfl
theorem ya4:tAgg Tryz.prog 4=some false:=by kernel_rfl
theorem ys4:tSize Tryz.prog 4=some 1:=by kernel_rfl
theorem yby4:tBytes Tryz.prog 4=some 1:=by kernel_rfl
theorem yz4:tZero Tryz.prog 4=some (.bool false):=by kernel_rfl
theorem yb4:Tryz.prog.underlying 4=some .bool:=by kernel_rfl
theorem ya5:tAgg Tryz.prog 5=some false:=by kernel_rfl
theorem ys5:tSize Tryz.prog 5=some 1:=by kernel_rfl
theorem yby5:tBytes Tryz.prog 5=some 1:=by kernel_rfl
theorem yz5:tZero Tryz.prog 5=some (.int .u8 0):=by kernel_rfl
theorem yi5:tInt Tryz.prog 5=some .u8:=by kernel_rfl
theorem yf7_0:tField Tryz.prog 7 0=some (0,2):=by kernel_rfl
theorem yf7_1:tField Tryz.prog 7 1=some (1,3):=by kernel_rfl
theorem yf7_2:tField Tryz.prog 7 2=some (2,4):=by kernel_rfl
theorem yf7_3:tField Tryz.prog 7 3=some (3,6):=by kernel_rfl
theorem ya9:tAgg Tryz.prog 9=some false:=by kernel_rfl
theorem ys9:tSize Tryz.prog 9=some 1:=by kernel_rfl
theorem yby9:tBytes Tryz.prog 9=some 16:=by kernel_rfl
theorem yz9:tZero Tryz.prog 9=some (.string ByteArray.empty):=by kernel_rfl
theorem yst9:tStr Tryz.prog 9=true:=by kernel_rfl
theorem yf13_0:tField Tryz.prog 13 0=some (0,9):=by kernel_rfl
theorem yf13_1:tField Tryz.prog 13 1=some (1,12):=by kernel_rfl
theorem yf18_0:tField Tryz.prog 18 0=some (0,17):=by kernel_rfl
theorem ya20:tAgg Tryz.prog 20=some false:=by kernel_rfl
theorem ys20:tSize Tryz.prog 20=some 1:=by kernel_rfl
theorem yby20:tBytes Tryz.prog 20=some 16:=by kernel_rfl
theorem yz20:tZero Tryz.prog 20=some (.nilIface):=by kernel_rfl
theorem ya21:tAgg Tryz.prog 21=some false:=by kernel_rfl
theorem ys21:tSize Tryz.prog 21=some 1:=by kernel_rfl
theorem yby21:tBytes Tryz.prog 21=some 4:=by kernel_rfl
theorem yz21:tZero Tryz.prog 21=some (.int .i32 0):=by kernel_rfl
theorem yi21:tInt Tryz.prog 21=some .i32:=by kernel_rfl
theorem ya22:tAgg Tryz.prog 22=some false:=by kernel_rfl
theorem ys22:tSize Tryz.prog 22=some 1:=by kernel_rfl
theorem yby22:tBytes Tryz.prog 22=some 24:=by kernel_rfl
theorem yz22:tZero Tryz.prog 22=some (.slice none 0 0):=by kernel_rfl
theorem ye22:tElem Tryz.prog 22=some 5:=by kernel_rfl
theorem ya24:tAgg Tryz.prog 24=some false:=by kernel_rfl
theorem ys24:tSize Tryz.prog 24=some 1:=by kernel_rfl
theorem yby24:tBytes Tryz.prog 24=some 24:=by kernel_rfl
theorem yz24:tZero Tryz.prog 24=some (.slice none 0 0):=by kernel_rfl
theorem ye24:tElem Tryz.prog 24=some 94:=by kernel_rfl
theorem ya25:tAgg Tryz.prog 25=some false:=by kernel_rfl
theorem ys25:tSize Tryz.prog 25=some 1:=by kernel_rfl
theorem yby25:tBytes Tryz.prog 25=some 24:=by kernel_rfl
theorem yz25:tZero Tryz.prog 25=some (.slice none 0 0):=by kernel_rfl
theorem ye25:tElem Tryz.prog 25=some 55:=by kernel_rfl
theorem ya26:tAgg Tryz.prog 26=some true:=by kernel_rfl
theorem ys26:tSize Tryz.prog 26=some 4:=by kernel_rfl
theorem yby26:tBytes Tryz.prog 26=some 88:=by kernel_rfl
theorem yz26:tZero Tryz.prog 26=some (.agg #[.string ByteArray.empty,.slice none 0 0,.slice none 0 0,.slice none 0 0]):=by kernel_rfl
theorem yf26_0:tField Tryz.prog 26 0=some (0,9):=by kernel_rfl
theorem yf26_1:tField Tryz.prog 26 1=some (1,24):=by kernel_rfl
theorem yf26_2:tField Tryz.prog 26 2=some (2,24):=by kernel_rfl
theorem yf26_3:tField Tryz.prog 26 3=some (3,25):=by kernel_rfl
theorem yp26:tPlaces Tryz.prog 26=some [(0,1),(1,1),(2,1),(3,1)]:=by kernel_rfl
theorem ya27:tAgg Tryz.prog 27=some true:=by kernel_rfl
theorem ys27:tSize Tryz.prog 27=some 4:=by kernel_rfl
theorem yby27:tBytes Tryz.prog 27=some 88:=by kernel_rfl
theorem yz27:tZero Tryz.prog 27=some (.agg #[.string ByteArray.empty,.slice none 0 0,.slice none 0 0,.slice none 0 0]):=by kernel_rfl
theorem yc27:tConc Tryz.prog 27=true:=by kernel_rfl
theorem yf27_0:tField Tryz.prog 27 0=some (0,9):=by kernel_rfl
theorem yf27_1:tField Tryz.prog 27 1=some (1,24):=by kernel_rfl
theorem yf27_2:tField Tryz.prog 27 2=some (2,24):=by kernel_rfl
theorem yf27_3:tField Tryz.prog 27 3=some (3,25):=by kernel_rfl
theorem yp27:tPlaces Tryz.prog 27=some [(0,1),(1,1),(2,1),(3,1)]:=by kernel_rfl
theorem ya28:tAgg Tryz.prog 28=some false:=by kernel_rfl
theorem ys28:tSize Tryz.prog 28=some 1:=by kernel_rfl
theorem yby28:tBytes Tryz.prog 28=some 8:=by kernel_rfl
theorem yz28:tZero Tryz.prog 28=some (.int .i64 0):=by kernel_rfl
theorem yc28:tConc Tryz.prog 28=true:=by kernel_rfl
theorem yi28:tInt Tryz.prog 28=some .i64:=by kernel_rfl
theorem ya35:tAgg Tryz.prog 35=some false:=by kernel_rfl
theorem ys35:tSize Tryz.prog 35=some 1:=by kernel_rfl
theorem yby35:tBytes Tryz.prog 35=some 24:=by kernel_rfl
theorem yz35:tZero Tryz.prog 35=some (.slice none 0 0):=by kernel_rfl
theorem ye35:tElem Tryz.prog 35=some 40:=by kernel_rfl
theorem ya38:tAgg Tryz.prog 38=some false:=by kernel_rfl
theorem ys38:tSize Tryz.prog 38=some 1:=by kernel_rfl
theorem yby38:tBytes Tryz.prog 38=some 24:=by kernel_rfl
theorem yz38:tZero Tryz.prog 38=some (.slice none 0 0):=by kernel_rfl
theorem ye38:tElem Tryz.prog 38=some 9:=by kernel_rfl
theorem ya39:tAgg Tryz.prog 39=some true:=by kernel_rfl
theorem ys39:tSize Tryz.prog 39=some 3:=by kernel_rfl
theorem yby39:tBytes Tryz.prog 39=some 32:=by kernel_rfl
theorem yz39:tZero Tryz.prog 39=some (.agg #[.int .i64 0,.string ByteArray.empty,.int .i64 0]):=by kernel_rfl
theorem yf39_0:tField Tryz.prog 39 0=some (0,3):=by kernel_rfl
theorem yf39_1:tField Tryz.prog 39 1=some (1,9):=by kernel_rfl
theorem yf39_2:tField Tryz.prog 39 2=some (2,3):=by kernel_rfl
theorem yp39:tPlaces Tryz.prog 39=some [(0,1),(1,1),(2,1)]:=by kernel_rfl
theorem ya40:tAgg Tryz.prog 40=some true:=by kernel_rfl
theorem ys40:tSize Tryz.prog 40=some 3:=by kernel_rfl
theorem yby40:tBytes Tryz.prog 40=some 32:=by kernel_rfl
theorem yz40:tZero Tryz.prog 40=some (.agg #[.int .i64 0,.string ByteArray.empty,.int .i64 0]):=by kernel_rfl
theorem yc40:tConc Tryz.prog 40=true:=by kernel_rfl
theorem yf40_0:tField Tryz.prog 40 0=some (0,3):=by kernel_rfl
theorem yf40_1:tField Tryz.prog 40 1=some (1,9):=by kernel_rfl
theorem yf40_2:tField Tryz.prog 40 2=some (2,3):=by kernel_rfl
theorem yp40:tPlaces Tryz.prog 40=some [(0,1),(1,1),(2,1)]:=by kernel_rfl
theorem yq40:tEq Tryz.prog 40=some [(0,.i),(1,.s),(2,.i)]:=by kernel_rfl
theorem ya46:tAgg Tryz.prog 46=some false:=by kernel_rfl
theorem ys46:tSize Tryz.prog 46=some 1:=by kernel_rfl
theorem yby46:tBytes Tryz.prog 46=some 24:=by kernel_rfl
theorem yz46:tZero Tryz.prog 46=some (.slice none 0 0):=by kernel_rfl
theorem ye46:tElem Tryz.prog 46=some 59:=by kernel_rfl
theorem ya47:tAgg Tryz.prog 47=some true:=by kernel_rfl
theorem ys47:tSize Tryz.prog 47=some 2:=by kernel_rfl
theorem yby47:tBytes Tryz.prog 47=some 48:=by kernel_rfl
theorem yz47:tZero Tryz.prog 47=some (.agg #[.slice none 0 0,.slice none 0 0]):=by kernel_rfl
theorem yf47_0:tField Tryz.prog 47 0=some (0,38):=by kernel_rfl
theorem yf47_1:tField Tryz.prog 47 1=some (1,46):=by kernel_rfl
theorem yp47:tPlaces Tryz.prog 47=some [(0,1),(1,1)]:=by kernel_rfl
theorem ya48:tAgg Tryz.prog 48=some true:=by kernel_rfl
theorem ys48:tSize Tryz.prog 48=some 2:=by kernel_rfl
theorem yby48:tBytes Tryz.prog 48=some 48:=by kernel_rfl
theorem yz48:tZero Tryz.prog 48=some (.agg #[.slice none 0 0,.slice none 0 0]):=by kernel_rfl
theorem yc48:tConc Tryz.prog 48=true:=by kernel_rfl
theorem yf48_0:tField Tryz.prog 48 0=some (0,38):=by kernel_rfl
theorem yf48_1:tField Tryz.prog 48 1=some (1,46):=by kernel_rfl
theorem yp48:tPlaces Tryz.prog 48=some [(0,1),(1,1)]:=by kernel_rfl
theorem ya51:tAgg Tryz.prog 51=some false:=by kernel_rfl
theorem ys51:tSize Tryz.prog 51=some 1:=by kernel_rfl
theorem yby51:tBytes Tryz.prog 51=some 8:=by kernel_rfl
theorem yz51:tZero Tryz.prog 51=some (.pointer none):=by kernel_rfl
theorem ypt51:tPtr Tryz.prog 51=some 57:=by kernel_rfl
theorem ya52:tAgg Tryz.prog 52=some false:=by kernel_rfl
theorem ys52:tSize Tryz.prog 52=some 1:=by kernel_rfl
theorem yby52:tBytes Tryz.prog 52=some 8:=by kernel_rfl
theorem yz52:tZero Tryz.prog 52=some (.pointer none):=by kernel_rfl
theorem ypt52:tPtr Tryz.prog 52=some 121:=by kernel_rfl
theorem ya53:tAgg Tryz.prog 53=some false:=by kernel_rfl
theorem ys53:tSize Tryz.prog 53=some 1:=by kernel_rfl
theorem yby53:tBytes Tryz.prog 53=some 24:=by kernel_rfl
theorem yz53:tZero Tryz.prog 53=some (.slice none 0 0):=by kernel_rfl
theorem ye53:tElem Tryz.prog 53=some 107:=by kernel_rfl
theorem ya54:tAgg Tryz.prog 54=some true:=by kernel_rfl
theorem ys54:tSize Tryz.prog 54=some 10:=by kernel_rfl
theorem yby54:tBytes Tryz.prog 54=some 144:=by kernel_rfl
theorem yz54:tZero Tryz.prog 54=some (.agg #[.int .i64 0,.string ByteArray.empty,.string ByteArray.empty,.pointer none,.pointer none,.pointer none,.slice none 0 0,.slice none 0 0,.slice none 0 0,.int .i64 0]):=by kernel_rfl
theorem yf54_0:tField Tryz.prog 54 0=some (0,3):=by kernel_rfl
theorem yf54_1:tField Tryz.prog 54 1=some (1,9):=by kernel_rfl
theorem yf54_2:tField Tryz.prog 54 2=some (2,9):=by kernel_rfl
theorem yf54_3:tField Tryz.prog 54 3=some (3,51):=by kernel_rfl
theorem yf54_4:tField Tryz.prog 54 4=some (4,51):=by kernel_rfl
theorem yf54_5:tField Tryz.prog 54 5=some (5,52):=by kernel_rfl
theorem yf54_6:tField Tryz.prog 54 6=some (6,53):=by kernel_rfl
theorem yf54_7:tField Tryz.prog 54 7=some (7,25):=by kernel_rfl
theorem yf54_8:tField Tryz.prog 54 8=some (8,25):=by kernel_rfl
theorem yf54_9:tField Tryz.prog 54 9=some (9,3):=by kernel_rfl
theorem yp54:tPlaces Tryz.prog 54=some [(0,1),(1,1),(2,1),(3,1),(4,1),(5,1),(6,1),(7,1),(8,1),(9,1)]:=by kernel_rfl
theorem ya55:tAgg Tryz.prog 55=some true:=by kernel_rfl
theorem ys55:tSize Tryz.prog 55=some 10:=by kernel_rfl
theorem yby55:tBytes Tryz.prog 55=some 144:=by kernel_rfl
theorem yz55:tZero Tryz.prog 55=some (.agg #[.int .i64 0,.string ByteArray.empty,.string ByteArray.empty,.pointer none,.pointer none,.pointer none,.slice none 0 0,.slice none 0 0,.slice none 0 0,.int .i64 0]):=by kernel_rfl
theorem yc55:tConc Tryz.prog 55=true:=by kernel_rfl
theorem yf55_0:tField Tryz.prog 55 0=some (0,3):=by kernel_rfl
theorem yf55_1:tField Tryz.prog 55 1=some (1,9):=by kernel_rfl
theorem yf55_2:tField Tryz.prog 55 2=some (2,9):=by kernel_rfl
theorem yf55_3:tField Tryz.prog 55 3=some (3,51):=by kernel_rfl
theorem yf55_4:tField Tryz.prog 55 4=some (4,51):=by kernel_rfl
theorem yf55_5:tField Tryz.prog 55 5=some (5,52):=by kernel_rfl
theorem yf55_6:tField Tryz.prog 55 6=some (6,53):=by kernel_rfl
theorem yf55_7:tField Tryz.prog 55 7=some (7,25):=by kernel_rfl
theorem yf55_8:tField Tryz.prog 55 8=some (8,25):=by kernel_rfl
theorem yf55_9:tField Tryz.prog 55 9=some (9,3):=by kernel_rfl
theorem yp55:tPlaces Tryz.prog 55=some [(0,1),(1,1),(2,1),(3,1),(4,1),(5,1),(6,1),(7,1),(8,1),(9,1)]:=by kernel_rfl
theorem ya56:tAgg Tryz.prog 56=some true:=by kernel_rfl
theorem ys56:tSize Tryz.prog 56=some 5:=by kernel_rfl
theorem yby56:tBytes Tryz.prog 56=some 48:=by kernel_rfl
theorem yz56:tZero Tryz.prog 56=some (.agg #[.int .i64 0,.int .i64 0,.string ByteArray.empty,.pointer none,.pointer none]):=by kernel_rfl
theorem yf56_0:tField Tryz.prog 56 0=some (0,3):=by kernel_rfl
theorem yf56_1:tField Tryz.prog 56 1=some (1,2):=by kernel_rfl
theorem yf56_2:tField Tryz.prog 56 2=some (2,9):=by kernel_rfl
theorem yf56_3:tField Tryz.prog 56 3=some (3,51):=by kernel_rfl
theorem yf56_4:tField Tryz.prog 56 4=some (4,51):=by kernel_rfl
theorem yp56:tPlaces Tryz.prog 56=some [(0,1),(1,1),(2,1),(3,1),(4,1)]:=by kernel_rfl
theorem ya57:tAgg Tryz.prog 57=some true:=by kernel_rfl
theorem ys57:tSize Tryz.prog 57=some 5:=by kernel_rfl
theorem yby57:tBytes Tryz.prog 57=some 48:=by kernel_rfl
theorem yz57:tZero Tryz.prog 57=some (.agg #[.int .i64 0,.int .i64 0,.string ByteArray.empty,.pointer none,.pointer none]):=by kernel_rfl
theorem yc57:tConc Tryz.prog 57=true:=by kernel_rfl
theorem yf57_0:tField Tryz.prog 57 0=some (0,3):=by kernel_rfl
theorem yf57_1:tField Tryz.prog 57 1=some (1,2):=by kernel_rfl
theorem yf57_2:tField Tryz.prog 57 2=some (2,9):=by kernel_rfl
theorem yf57_3:tField Tryz.prog 57 3=some (3,51):=by kernel_rfl
theorem yf57_4:tField Tryz.prog 57 4=some (4,51):=by kernel_rfl
theorem yp57:tPlaces Tryz.prog 57=some [(0,1),(1,1),(2,1),(3,1),(4,1)]:=by kernel_rfl
theorem ya58:tAgg Tryz.prog 58=some true:=by kernel_rfl
theorem ys58:tSize Tryz.prog 58=some 2:=by kernel_rfl
theorem yby58:tBytes Tryz.prog 58=some 24:=by kernel_rfl
theorem yz58:tZero Tryz.prog 58=some (.agg #[.string ByteArray.empty,.int .i64 0]):=by kernel_rfl
theorem yf58_0:tField Tryz.prog 58 0=some (0,9):=by kernel_rfl
theorem yf58_1:tField Tryz.prog 58 1=some (1,3):=by kernel_rfl
theorem yp58:tPlaces Tryz.prog 58=some [(0,1),(1,1)]:=by kernel_rfl
theorem ya59:tAgg Tryz.prog 59=some true:=by kernel_rfl
theorem ys59:tSize Tryz.prog 59=some 2:=by kernel_rfl
theorem yby59:tBytes Tryz.prog 59=some 24:=by kernel_rfl
theorem yz59:tZero Tryz.prog 59=some (.agg #[.string ByteArray.empty,.int .i64 0]):=by kernel_rfl
theorem yc59:tConc Tryz.prog 59=true:=by kernel_rfl
theorem yf59_0:tField Tryz.prog 59 0=some (0,9):=by kernel_rfl
theorem yf59_1:tField Tryz.prog 59 1=some (1,3):=by kernel_rfl
theorem yp59:tPlaces Tryz.prog 59=some [(0,1),(1,1)]:=by kernel_rfl
theorem yq59:tEq Tryz.prog 59=some [(0,.s),(1,.i)]:=by kernel_rfl
theorem ya60:tAgg Tryz.prog 60=some false:=by kernel_rfl
theorem ys60:tSize Tryz.prog 60=some 1:=by kernel_rfl
theorem yby60:tBytes Tryz.prog 60=some 8:=by kernel_rfl
theorem yz60:tZero Tryz.prog 60=some (.pointer none):=by kernel_rfl
theorem ypt60:tPtr Tryz.prog 60=some 66:=by kernel_rfl
theorem ya63:tAgg Tryz.prog 63=some true:=by kernel_rfl
theorem ys63:tSize Tryz.prog 63=some 3:=by kernel_rfl
theorem yby63:tBytes Tryz.prog 63=some 40:=by kernel_rfl
theorem yz63:tZero Tryz.prog 63=some (.agg #[.slice none 0 0,.int .i64 0,.int .i64 0]):=by kernel_rfl
theorem yf63_0:tField Tryz.prog 63 0=some (0,35):=by kernel_rfl
theorem yf63_1:tField Tryz.prog 63 1=some (1,3):=by kernel_rfl
theorem yf63_2:tField Tryz.prog 63 2=some (2,3):=by kernel_rfl
theorem yp63:tPlaces Tryz.prog 63=some [(0,1),(1,1),(2,1)]:=by kernel_rfl
theorem ya64:tAgg Tryz.prog 64=some true:=by kernel_rfl
theorem ys64:tSize Tryz.prog 64=some 3:=by kernel_rfl
theorem yby64:tBytes Tryz.prog 64=some 40:=by kernel_rfl
theorem yz64:tZero Tryz.prog 64=some (.agg #[.slice none 0 0,.int .i64 0,.int .i64 0]):=by kernel_rfl
theorem yc64:tConc Tryz.prog 64=true:=by kernel_rfl
theorem yf64_0:tField Tryz.prog 64 0=some (0,35):=by kernel_rfl
theorem yf64_1:tField Tryz.prog 64 1=some (1,3):=by kernel_rfl
theorem yf64_2:tField Tryz.prog 64 2=some (2,3):=by kernel_rfl
theorem yp64:tPlaces Tryz.prog 64=some [(0,1),(1,1),(2,1)]:=by kernel_rfl
theorem ya65:tAgg Tryz.prog 65=some true:=by kernel_rfl
theorem ys65:tSize Tryz.prog 65=some 7:=by kernel_rfl
theorem yby65:tBytes Tryz.prog 65=some 72:=by kernel_rfl
theorem yz65:tZero Tryz.prog 65=some (.agg #[.slice none 0 0,.int .i64 0,.int .i64 0,.int .i64 0,.int .i64 0,.int .i64 0,.int .i64 0]):=by kernel_rfl
theorem yf65_0:tField Tryz.prog 65 0=some (0,64):=by kernel_rfl
theorem yf65_1:tField Tryz.prog 65 1=some (3,3):=by kernel_rfl
theorem yf65_2:tField Tryz.prog 65 2=some (4,3):=by kernel_rfl
theorem yf65_3:tField Tryz.prog 65 3=some (5,3):=by kernel_rfl
theorem yf65_4:tField Tryz.prog 65 4=some (6,28):=by kernel_rfl
theorem yp65:tPlaces Tryz.prog 65=some [(0,3),(3,1),(4,1),(5,1),(6,1)]:=by kernel_rfl
theorem ya66:tAgg Tryz.prog 66=some true:=by kernel_rfl
theorem ys66:tSize Tryz.prog 66=some 7:=by kernel_rfl
theorem yby66:tBytes Tryz.prog 66=some 72:=by kernel_rfl
theorem yz66:tZero Tryz.prog 66=some (.agg #[.slice none 0 0,.int .i64 0,.int .i64 0,.int .i64 0,.int .i64 0,.int .i64 0,.int .i64 0]):=by kernel_rfl
theorem yc66:tConc Tryz.prog 66=true:=by kernel_rfl
theorem yf66_0:tField Tryz.prog 66 0=some (0,64):=by kernel_rfl
theorem yf66_1:tField Tryz.prog 66 1=some (3,3):=by kernel_rfl
theorem yf66_2:tField Tryz.prog 66 2=some (4,3):=by kernel_rfl
theorem yf66_3:tField Tryz.prog 66 3=some (5,3):=by kernel_rfl
theorem yf66_4:tField Tryz.prog 66 4=some (6,28):=by kernel_rfl
theorem yp66:tPlaces Tryz.prog 66=some [(0,3),(3,1),(4,1),(5,1),(6,1)]:=by kernel_rfl
theorem ya69:tAgg Tryz.prog 69=some false:=by kernel_rfl
theorem ys69:tSize Tryz.prog 69=some 1:=by kernel_rfl
theorem yby69:tBytes Tryz.prog 69=some 8:=by kernel_rfl
theorem yz69:tZero Tryz.prog 69=some (.pointer none):=by kernel_rfl
theorem ypt69:tPtr Tryz.prog 69=some 71:=by kernel_rfl
theorem ya70:tAgg Tryz.prog 70=some true:=by kernel_rfl
theorem ys70:tSize Tryz.prog 70=some 3:=by kernel_rfl
theorem yby70:tBytes Tryz.prog 70=some 40:=by kernel_rfl
theorem yz70:tZero Tryz.prog 70=some (.agg #[.slice none 0 0,.int .i64 0,.int .i64 0]):=by kernel_rfl
theorem yf70_0:tField Tryz.prog 70 0=some (0,22):=by kernel_rfl
theorem yf70_1:tField Tryz.prog 70 1=some (1,3):=by kernel_rfl
theorem yf70_2:tField Tryz.prog 70 2=some (2,3):=by kernel_rfl
theorem yp70:tPlaces Tryz.prog 70=some [(0,1),(1,1),(2,1)]:=by kernel_rfl
theorem ya71:tAgg Tryz.prog 71=some true:=by kernel_rfl
theorem ys71:tSize Tryz.prog 71=some 3:=by kernel_rfl
theorem yby71:tBytes Tryz.prog 71=some 40:=by kernel_rfl
theorem yz71:tZero Tryz.prog 71=some (.agg #[.slice none 0 0,.int .i64 0,.int .i64 0]):=by kernel_rfl
theorem yc71:tConc Tryz.prog 71=true:=by kernel_rfl
theorem yf71_0:tField Tryz.prog 71 0=some (0,22):=by kernel_rfl
theorem yf71_1:tField Tryz.prog 71 1=some (1,3):=by kernel_rfl
theorem yf71_2:tField Tryz.prog 71 2=some (2,3):=by kernel_rfl
theorem yp71:tPlaces Tryz.prog 71=some [(0,1),(1,1),(2,1)]:=by kernel_rfl
theorem ya77:tAgg Tryz.prog 77=some false:=by kernel_rfl
theorem ys77:tSize Tryz.prog 77=some 1:=by kernel_rfl
theorem yby77:tBytes Tryz.prog 77=some 8:=by kernel_rfl
theorem yz77:tZero Tryz.prog 77=some (.int .u64 0):=by kernel_rfl
theorem yi77:tInt Tryz.prog 77=some .u64:=by kernel_rfl
theorem ya81:tAgg Tryz.prog 81=some false:=by kernel_rfl
theorem ys81:tSize Tryz.prog 81=some 1:=by kernel_rfl
theorem yby81:tBytes Tryz.prog 81=some 8:=by kernel_rfl
theorem yz81:tZero Tryz.prog 81=some (.pointer none):=by kernel_rfl
theorem ypt81:tPtr Tryz.prog 81=some 83:=by kernel_rfl
theorem ya82:tAgg Tryz.prog 82=some true:=by kernel_rfl
theorem ys82:tSize Tryz.prog 82=some 7:=by kernel_rfl
theorem yby82:tBytes Tryz.prog 82=some 72:=by kernel_rfl
theorem yz82:tZero Tryz.prog 82=some (.agg #[.slice none 0 0,.int .i64 0,.int .i64 0,.int .i64 0,.int .i64 0,.int .i64 0,.int .i64 0]):=by kernel_rfl
theorem yf82_0:tField Tryz.prog 82 0=some (0,35):=by kernel_rfl
theorem yf82_1:tField Tryz.prog 82 1=some (1,3):=by kernel_rfl
theorem yf82_2:tField Tryz.prog 82 2=some (2,3):=by kernel_rfl
theorem yf82_3:tField Tryz.prog 82 3=some (3,3):=by kernel_rfl
theorem yf82_4:tField Tryz.prog 82 4=some (4,3):=by kernel_rfl
theorem yf82_5:tField Tryz.prog 82 5=some (5,3):=by kernel_rfl
theorem yf82_6:tField Tryz.prog 82 6=some (6,3):=by kernel_rfl
theorem yp82:tPlaces Tryz.prog 82=some [(0,1),(1,1),(2,1),(3,1),(4,1),(5,1),(6,1)]:=by kernel_rfl
theorem ya83:tAgg Tryz.prog 83=some true:=by kernel_rfl
theorem ys83:tSize Tryz.prog 83=some 7:=by kernel_rfl
theorem yby83:tBytes Tryz.prog 83=some 72:=by kernel_rfl
theorem yz83:tZero Tryz.prog 83=some (.agg #[.slice none 0 0,.int .i64 0,.int .i64 0,.int .i64 0,.int .i64 0,.int .i64 0,.int .i64 0]):=by kernel_rfl
theorem yc83:tConc Tryz.prog 83=true:=by kernel_rfl
theorem yf83_0:tField Tryz.prog 83 0=some (0,35):=by kernel_rfl
theorem yf83_1:tField Tryz.prog 83 1=some (1,3):=by kernel_rfl
theorem yf83_2:tField Tryz.prog 83 2=some (2,3):=by kernel_rfl
theorem yf83_3:tField Tryz.prog 83 3=some (3,3):=by kernel_rfl
theorem yf83_4:tField Tryz.prog 83 4=some (4,3):=by kernel_rfl
theorem yf83_5:tField Tryz.prog 83 5=some (5,3):=by kernel_rfl
theorem yf83_6:tField Tryz.prog 83 6=some (6,3):=by kernel_rfl
theorem yp83:tPlaces Tryz.prog 83=some [(0,1),(1,1),(2,1),(3,1),(4,1),(5,1),(6,1)]:=by kernel_rfl
theorem ya90:tAgg Tryz.prog 90=some false:=by kernel_rfl
theorem ys90:tSize Tryz.prog 90=some 1:=by kernel_rfl
theorem yby90:tBytes Tryz.prog 90=some 8:=by kernel_rfl
theorem yz90:tZero Tryz.prog 90=some (.pointer none):=by kernel_rfl
theorem ypt90:tPtr Tryz.prog 90=some 48:=by kernel_rfl
theorem ya93:tAgg Tryz.prog 93=some true:=by kernel_rfl
theorem ys93:tSize Tryz.prog 93=some 2:=by kernel_rfl
theorem yby93:tBytes Tryz.prog 93=some 24:=by kernel_rfl
theorem yz93:tZero Tryz.prog 93=some (.agg #[.string ByteArray.empty,.bool false]):=by kernel_rfl
theorem yf93_0:tField Tryz.prog 93 0=some (0,9):=by kernel_rfl
theorem yf93_1:tField Tryz.prog 93 1=some (1,4):=by kernel_rfl
theorem yp93:tPlaces Tryz.prog 93=some [(0,1),(1,1)]:=by kernel_rfl
theorem ya94:tAgg Tryz.prog 94=some true:=by kernel_rfl
theorem ys94:tSize Tryz.prog 94=some 2:=by kernel_rfl
theorem yby94:tBytes Tryz.prog 94=some 24:=by kernel_rfl
theorem yz94:tZero Tryz.prog 94=some (.agg #[.string ByteArray.empty,.bool false]):=by kernel_rfl
theorem yc94:tConc Tryz.prog 94=true:=by kernel_rfl
theorem yf94_0:tField Tryz.prog 94 0=some (0,9):=by kernel_rfl
theorem yf94_1:tField Tryz.prog 94 1=some (1,4):=by kernel_rfl
theorem yp94:tPlaces Tryz.prog 94=some [(0,1),(1,1)]:=by kernel_rfl
theorem yq94:tEq Tryz.prog 94=some [(0,.s),(1,.b)]:=by kernel_rfl
theorem ya106:tAgg Tryz.prog 106=some true:=by kernel_rfl
theorem ys106:tSize Tryz.prog 106=some 3:=by kernel_rfl
theorem yby106:tBytes Tryz.prog 106=some 32:=by kernel_rfl
theorem yz106:tZero Tryz.prog 106=some (.agg #[.bool false,.string ByteArray.empty,.pointer none]):=by kernel_rfl
theorem yf106_0:tField Tryz.prog 106 0=some (0,4):=by kernel_rfl
theorem yf106_1:tField Tryz.prog 106 1=some (1,9):=by kernel_rfl
theorem yf106_2:tField Tryz.prog 106 2=some (2,51):=by kernel_rfl
theorem yp106:tPlaces Tryz.prog 106=some [(0,1),(1,1),(2,1)]:=by kernel_rfl
theorem ya107:tAgg Tryz.prog 107=some true:=by kernel_rfl
theorem ys107:tSize Tryz.prog 107=some 3:=by kernel_rfl
theorem yby107:tBytes Tryz.prog 107=some 32:=by kernel_rfl
theorem yz107:tZero Tryz.prog 107=some (.agg #[.bool false,.string ByteArray.empty,.pointer none]):=by kernel_rfl
theorem yc107:tConc Tryz.prog 107=true:=by kernel_rfl
theorem yf107_0:tField Tryz.prog 107 0=some (0,4):=by kernel_rfl
theorem yf107_1:tField Tryz.prog 107 1=some (1,9):=by kernel_rfl
theorem yf107_2:tField Tryz.prog 107 2=some (2,51):=by kernel_rfl
theorem yp107:tPlaces Tryz.prog 107=some [(0,1),(1,1),(2,1)]:=by kernel_rfl
theorem ya120:tAgg Tryz.prog 120=some true:=by kernel_rfl
theorem ys120:tSize Tryz.prog 120=some 6:=by kernel_rfl
theorem yby120:tBytes Tryz.prog 120=some 56:=by kernel_rfl
theorem yz120:tZero Tryz.prog 120=some (.agg #[.int .i64 0,.pointer none,.pointer none,.pointer none,.pointer none,.string ByteArray.empty]):=by kernel_rfl
theorem yf120_0:tField Tryz.prog 120 0=some (0,3):=by kernel_rfl
theorem yf120_1:tField Tryz.prog 120 1=some (1,51):=by kernel_rfl
theorem yf120_2:tField Tryz.prog 120 2=some (2,51):=by kernel_rfl
theorem yf120_3:tField Tryz.prog 120 3=some (3,52):=by kernel_rfl
theorem yf120_4:tField Tryz.prog 120 4=some (4,52):=by kernel_rfl
theorem yf120_5:tField Tryz.prog 120 5=some (5,9):=by kernel_rfl
theorem yp120:tPlaces Tryz.prog 120=some [(0,1),(1,1),(2,1),(3,1),(4,1),(5,1)]:=by kernel_rfl
theorem ya121:tAgg Tryz.prog 121=some true:=by kernel_rfl
theorem ys121:tSize Tryz.prog 121=some 6:=by kernel_rfl
theorem yby121:tBytes Tryz.prog 121=some 56:=by kernel_rfl
theorem yz121:tZero Tryz.prog 121=some (.agg #[.int .i64 0,.pointer none,.pointer none,.pointer none,.pointer none,.string ByteArray.empty]):=by kernel_rfl
theorem yc121:tConc Tryz.prog 121=true:=by kernel_rfl
theorem yf121_0:tField Tryz.prog 121 0=some (0,3):=by kernel_rfl
theorem yf121_1:tField Tryz.prog 121 1=some (1,51):=by kernel_rfl
theorem yf121_2:tField Tryz.prog 121 2=some (2,51):=by kernel_rfl
theorem yf121_3:tField Tryz.prog 121 3=some (3,52):=by kernel_rfl
theorem yf121_4:tField Tryz.prog 121 4=some (4,52):=by kernel_rfl
theorem yf121_5:tField Tryz.prog 121 5=some (5,9):=by kernel_rfl
theorem yp121:tPlaces Tryz.prog 121=some [(0,1),(1,1),(2,1),(3,1),(4,1),(5,1)]:=by kernel_rfl
theorem ya137:tAgg Tryz.prog 137=some false:=by kernel_rfl
theorem ys137:tSize Tryz.prog 137=some 1:=by kernel_rfl
theorem yby137:tBytes Tryz.prog 137=some 8:=by kernel_rfl
theorem yz137:tZero Tryz.prog 137=some (.pointer none):=by kernel_rfl
theorem ypt137:tPtr Tryz.prog 137=some 133:=by kernel_rfl
theorem yf141_0:tField Tryz.prog 141 0=some (0,9):=by kernel_rfl
theorem yf141_1:tField Tryz.prog 141 1=some (1,9):=by kernel_rfl
theorem yf141_2:tField Tryz.prog 141 2=some (2,116):=by kernel_rfl
theorem yf142_0:tField Tryz.prog 142 0=some (0,9):=by kernel_rfl
theorem yf142_1:tField Tryz.prog 142 1=some (1,9):=by kernel_rfl
theorem yf142_2:tField Tryz.prog 142 2=some (2,116):=by kernel_rfl
theorem yf149_0:tField Tryz.prog 149 0=some (0,9):=by kernel_rfl
theorem yf150_0:tField Tryz.prog 150 0=some (0,9):=by kernel_rfl
theorem yf154_0:tField Tryz.prog 154 0=some (0,5):=by kernel_rfl
theorem yf154_1:tField Tryz.prog 154 1=some (1,5):=by kernel_rfl
theorem yf155_0:tField Tryz.prog 155 0=some (0,5):=by kernel_rfl
theorem yf155_1:tField Tryz.prog 155 1=some (1,5):=by kernel_rfl
theorem yf172_0:tField Tryz.prog 172 0=some (0,17):=by kernel_rfl
theorem yf172_1:tField Tryz.prog 172 1=some (1,17):=by kernel_rfl
theorem yf172_2:tField Tryz.prog 172 2=some (2,17):=by kernel_rfl
theorem yf172_3:tField Tryz.prog 172 3=some (3,9):=by kernel_rfl
theorem yf175_0:tField Tryz.prog 175 0=some (0,174):=by kernel_rfl
theorem yf182_0:tField Tryz.prog 182 0=some (0,12):=by kernel_rfl
theorem yf182_1:tField Tryz.prog 182 1=some (1,12):=by kernel_rfl
theorem yf182_2:tField Tryz.prog 182 2=some (2,166):=by kernel_rfl
theorem yf182_3:tField Tryz.prog 182 3=some (3,177):=by kernel_rfl
theorem yf182_4:tField Tryz.prog 182 4=some (4,5):=by kernel_rfl
theorem yf182_5:tField Tryz.prog 182 5=some (5,5):=by kernel_rfl
theorem yf182_6:tField Tryz.prog 182 6=some (6,178):=by kernel_rfl
theorem yf182_7:tField Tryz.prog 182 7=some (7,179):=by kernel_rfl
theorem yf182_8:tField Tryz.prog 182 8=some (8,147):=by kernel_rfl
theorem yf182_9:tField Tryz.prog 182 9=some (9,180):=by kernel_rfl
theorem yf182_10:tField Tryz.prog 182 10=some (10,181):=by kernel_rfl
end Go.Proofs.YtodppgiaimihfabGreatDoor
