/- Closed facts on the types of the program, for the second executor. No conditions. -/
import Derived.Test.YtodppgiaimihfabDoorSyB
import Derived.Test.YtodppgiaimihfabDoorRows
import Derived.KernelRfl
set_option linter.unusedVariables false
set_option linter.unusedSimpArgs false
namespace Go.Proofs.YtodppgiaimihfabDoor
open Go Go.Sy
theorem ya2:tAgg Tryd.prog 2=some false:=by kernel_rfl
theorem ys2:tSize Tryd.prog 2=some 1:=by kernel_rfl
theorem yby2:tBytes Tryd.prog 2=some 8:=by kernel_rfl
theorem yz2:tZero Tryd.prog 2=some (.int .i64 0):=by kernel_rfl
theorem yi2:tInt Tryd.prog 2=some .i64:=by kernel_rfl
theorem ya3:tAgg Tryd.prog 3=some false:=by kernel_rfl
theorem ys3:tSize Tryd.prog 3=some 1:=by kernel_rfl
theorem yby3:tBytes Tryd.prog 3=some 8:=by kernel_rfl
theorem yz3:tZero Tryd.prog 3=some (.int .i64 0):=by kernel_rfl
theorem yi3:tInt Tryd.prog 3=some .i64:=by kernel_rfl
theorem ya4:tAgg Tryd.prog 4=some false:=by kernel_rfl
theorem ys4:tSize Tryd.prog 4=some 1:=by kernel_rfl
theorem yby4:tBytes Tryd.prog 4=some 1:=by kernel_rfl
theorem yz4:tZero Tryd.prog 4=some (.bool false):=by kernel_rfl
theorem yb4:Tryd.prog.underlying 4=some .bool:=by kernel_rfl
theorem ya5:tAgg Tryd.prog 5=some false:=by kernel_rfl
theorem ys5:tSize Tryd.prog 5=some 1:=by kernel_rfl
theorem yby5:tBytes Tryd.prog 5=some 1:=by kernel_rfl
theorem yz5:tZero Tryd.prog 5=some (.int .u8 0):=by kernel_rfl
theorem yi5:tInt Tryd.prog 5=some .u8:=by kernel_rfl
theorem yf7_0:tField Tryd.prog 7 0=some (0,2):=by kernel_rfl
theorem yf7_1:tField Tryd.prog 7 1=some (1,3):=by kernel_rfl
theorem yf7_2:tField Tryd.prog 7 2=some (2,4):=by kernel_rfl
theorem yf7_3:tField Tryd.prog 7 3=some (3,6):=by kernel_rfl
theorem ya9:tAgg Tryd.prog 9=some false:=by kernel_rfl
theorem ys9:tSize Tryd.prog 9=some 1:=by kernel_rfl
theorem yby9:tBytes Tryd.prog 9=some 16:=by kernel_rfl
theorem yz9:tZero Tryd.prog 9=some (.string ByteArray.empty):=by kernel_rfl
theorem yst9:tStr Tryd.prog 9=true:=by kernel_rfl
theorem yf13_0:tField Tryd.prog 13 0=some (0,9):=by kernel_rfl
theorem yf13_1:tField Tryd.prog 13 1=some (1,12):=by kernel_rfl
theorem yf18_0:tField Tryd.prog 18 0=some (0,17):=by kernel_rfl
theorem ya20:tAgg Tryd.prog 20=some false:=by kernel_rfl
theorem ys20:tSize Tryd.prog 20=some 1:=by kernel_rfl
theorem yby20:tBytes Tryd.prog 20=some 16:=by kernel_rfl
theorem yz20:tZero Tryd.prog 20=some (.nilIface):=by kernel_rfl
theorem ya21:tAgg Tryd.prog 21=some false:=by kernel_rfl
theorem ys21:tSize Tryd.prog 21=some 1:=by kernel_rfl
theorem yby21:tBytes Tryd.prog 21=some 4:=by kernel_rfl
theorem yz21:tZero Tryd.prog 21=some (.int .i32 0):=by kernel_rfl
theorem yi21:tInt Tryd.prog 21=some .i32:=by kernel_rfl
theorem ya24:tAgg Tryd.prog 24=some false:=by kernel_rfl
theorem ys24:tSize Tryd.prog 24=some 1:=by kernel_rfl
theorem yby24:tBytes Tryd.prog 24=some 24:=by kernel_rfl
theorem yz24:tZero Tryd.prog 24=some (.slice none 0 0):=by kernel_rfl
theorem ye24:tElem Tryd.prog 24=some 72:=by kernel_rfl
theorem ya25:tAgg Tryd.prog 25=some false:=by kernel_rfl
theorem ys25:tSize Tryd.prog 25=some 1:=by kernel_rfl
theorem yby25:tBytes Tryd.prog 25=some 24:=by kernel_rfl
theorem yz25:tZero Tryd.prog 25=some (.slice none 0 0):=by kernel_rfl
theorem ye25:tElem Tryd.prog 25=some 45:=by kernel_rfl
theorem ya26:tAgg Tryd.prog 26=some true:=by kernel_rfl
theorem ys26:tSize Tryd.prog 26=some 4:=by kernel_rfl
theorem yby26:tBytes Tryd.prog 26=some 88:=by kernel_rfl
theorem yz26:tZero Tryd.prog 26=some (.agg #[.string ByteArray.empty,.slice none 0 0,.slice none 0 0,.slice none 0 0]):=by kernel_rfl
theorem yf26_0:tField Tryd.prog 26 0=some (0,9):=by kernel_rfl
theorem yf26_1:tField Tryd.prog 26 1=some (1,24):=by kernel_rfl
theorem yf26_2:tField Tryd.prog 26 2=some (2,24):=by kernel_rfl
theorem yf26_3:tField Tryd.prog 26 3=some (3,25):=by kernel_rfl
theorem yp26:tPlaces Tryd.prog 26=some [(0,1),(1,1),(2,1),(3,1)]:=by kernel_rfl
theorem ya27:tAgg Tryd.prog 27=some true:=by kernel_rfl
theorem ys27:tSize Tryd.prog 27=some 4:=by kernel_rfl
theorem yby27:tBytes Tryd.prog 27=some 88:=by kernel_rfl
theorem yz27:tZero Tryd.prog 27=some (.agg #[.string ByteArray.empty,.slice none 0 0,.slice none 0 0,.slice none 0 0]):=by kernel_rfl
theorem yc27:tConc Tryd.prog 27=true:=by kernel_rfl
theorem yf27_0:tField Tryd.prog 27 0=some (0,9):=by kernel_rfl
theorem yf27_1:tField Tryd.prog 27 1=some (1,24):=by kernel_rfl
theorem yf27_2:tField Tryd.prog 27 2=some (2,24):=by kernel_rfl
theorem yf27_3:tField Tryd.prog 27 3=some (3,25):=by kernel_rfl
theorem yp27:tPlaces Tryd.prog 27=some [(0,1),(1,1),(2,1),(3,1)]:=by kernel_rfl
theorem ya28:tAgg Tryd.prog 28=some false:=by kernel_rfl
theorem ys28:tSize Tryd.prog 28=some 1:=by kernel_rfl
theorem yby28:tBytes Tryd.prog 28=some 8:=by kernel_rfl
theorem yz28:tZero Tryd.prog 28=some (.int .i64 0):=by kernel_rfl
theorem yc28:tConc Tryd.prog 28=true:=by kernel_rfl
theorem yi28:tInt Tryd.prog 28=some .i64:=by kernel_rfl
theorem ya32:tAgg Tryd.prog 32=some false:=by kernel_rfl
theorem ys32:tSize Tryd.prog 32=some 1:=by kernel_rfl
theorem yby32:tBytes Tryd.prog 32=some 2:=by kernel_rfl
theorem yz32:tZero Tryd.prog 32=some (.int .u16 0):=by kernel_rfl
theorem yi32:tInt Tryd.prog 32=some .u16:=by kernel_rfl
theorem ya33:tAgg Tryd.prog 33=some false:=by kernel_rfl
theorem ys33:tSize Tryd.prog 33=some 1:=by kernel_rfl
theorem yby33:tBytes Tryd.prog 33=some 24:=by kernel_rfl
theorem yz33:tZero Tryd.prog 33=some (.slice none 0 0):=by kernel_rfl
theorem ye33:tElem Tryd.prog 33=some 9:=by kernel_rfl
theorem ya34:tAgg Tryd.prog 34=some false:=by kernel_rfl
theorem ys34:tSize Tryd.prog 34=some 1:=by kernel_rfl
theorem yby34:tBytes Tryd.prog 34=some 24:=by kernel_rfl
theorem yz34:tZero Tryd.prog 34=some (.slice none 0 0):=by kernel_rfl
theorem ye34:tElem Tryd.prog 34=some 52:=by kernel_rfl
theorem ya35:tAgg Tryd.prog 35=some true:=by kernel_rfl
theorem ys35:tSize Tryd.prog 35=some 2:=by kernel_rfl
theorem yby35:tBytes Tryd.prog 35=some 48:=by kernel_rfl
theorem yz35:tZero Tryd.prog 35=some (.agg #[.slice none 0 0,.slice none 0 0]):=by kernel_rfl
theorem yf35_0:tField Tryd.prog 35 0=some (0,33):=by kernel_rfl
theorem yf35_1:tField Tryd.prog 35 1=some (1,34):=by kernel_rfl
theorem yp35:tPlaces Tryd.prog 35=some [(0,1),(1,1)]:=by kernel_rfl
theorem ya36:tAgg Tryd.prog 36=some true:=by kernel_rfl
theorem ys36:tSize Tryd.prog 36=some 2:=by kernel_rfl
theorem yby36:tBytes Tryd.prog 36=some 48:=by kernel_rfl
theorem yz36:tZero Tryd.prog 36=some (.agg #[.slice none 0 0,.slice none 0 0]):=by kernel_rfl
theorem yc36:tConc Tryd.prog 36=true:=by kernel_rfl
theorem yf36_0:tField Tryd.prog 36 0=some (0,33):=by kernel_rfl
theorem yf36_1:tField Tryd.prog 36 1=some (1,34):=by kernel_rfl
theorem yp36:tPlaces Tryd.prog 36=some [(0,1),(1,1)]:=by kernel_rfl
theorem ya40:tAgg Tryd.prog 40=some false:=by kernel_rfl
theorem ys40:tSize Tryd.prog 40=some 1:=by kernel_rfl
theorem yby40:tBytes Tryd.prog 40=some 24:=by kernel_rfl
theorem yz40:tZero Tryd.prog 40=some (.slice none 0 0):=by kernel_rfl
theorem ye40:tElem Tryd.prog 40=some 5:=by kernel_rfl
theorem ya41:tAgg Tryd.prog 41=some false:=by kernel_rfl
theorem ys41:tSize Tryd.prog 41=some 1:=by kernel_rfl
theorem yby41:tBytes Tryd.prog 41=some 8:=by kernel_rfl
theorem yz41:tZero Tryd.prog 41=some (.pointer none):=by kernel_rfl
theorem ypt41:tPtr Tryd.prog 41=some 50:=by kernel_rfl
theorem ya42:tAgg Tryd.prog 42=some false:=by kernel_rfl
theorem ys42:tSize Tryd.prog 42=some 1:=by kernel_rfl
theorem yby42:tBytes Tryd.prog 42=some 8:=by kernel_rfl
theorem yz42:tZero Tryd.prog 42=some (.pointer none):=by kernel_rfl
theorem ypt42:tPtr Tryd.prog 42=some 117:=by kernel_rfl
theorem ya43:tAgg Tryd.prog 43=some false:=by kernel_rfl
theorem ys43:tSize Tryd.prog 43=some 1:=by kernel_rfl
theorem yby43:tBytes Tryd.prog 43=some 24:=by kernel_rfl
theorem yz43:tZero Tryd.prog 43=some (.slice none 0 0):=by kernel_rfl
theorem ye43:tElem Tryd.prog 43=some 119:=by kernel_rfl
theorem ya44:tAgg Tryd.prog 44=some true:=by kernel_rfl
theorem ys44:tSize Tryd.prog 44=some 10:=by kernel_rfl
theorem yby44:tBytes Tryd.prog 44=some 144:=by kernel_rfl
theorem yz44:tZero Tryd.prog 44=some (.agg #[.int .i64 0,.string ByteArray.empty,.string ByteArray.empty,.pointer none,.pointer none,.pointer none,.slice none 0 0,.slice none 0 0,.slice none 0 0,.int .i64 0]):=by kernel_rfl
theorem yf44_0:tField Tryd.prog 44 0=some (0,3):=by kernel_rfl
theorem yf44_1:tField Tryd.prog 44 1=some (1,9):=by kernel_rfl
theorem yf44_2:tField Tryd.prog 44 2=some (2,9):=by kernel_rfl
theorem yf44_3:tField Tryd.prog 44 3=some (3,41):=by kernel_rfl
theorem yf44_4:tField Tryd.prog 44 4=some (4,41):=by kernel_rfl
theorem yf44_5:tField Tryd.prog 44 5=some (5,42):=by kernel_rfl
theorem yf44_6:tField Tryd.prog 44 6=some (6,43):=by kernel_rfl
theorem yf44_7:tField Tryd.prog 44 7=some (7,25):=by kernel_rfl
theorem yf44_8:tField Tryd.prog 44 8=some (8,25):=by kernel_rfl
theorem yf44_9:tField Tryd.prog 44 9=some (9,3):=by kernel_rfl
theorem yp44:tPlaces Tryd.prog 44=some [(0,1),(1,1),(2,1),(3,1),(4,1),(5,1),(6,1),(7,1),(8,1),(9,1)]:=by kernel_rfl
theorem ya45:tAgg Tryd.prog 45=some true:=by kernel_rfl
theorem ys45:tSize Tryd.prog 45=some 10:=by kernel_rfl
theorem yby45:tBytes Tryd.prog 45=some 144:=by kernel_rfl
theorem yz45:tZero Tryd.prog 45=some (.agg #[.int .i64 0,.string ByteArray.empty,.string ByteArray.empty,.pointer none,.pointer none,.pointer none,.slice none 0 0,.slice none 0 0,.slice none 0 0,.int .i64 0]):=by kernel_rfl
theorem yc45:tConc Tryd.prog 45=true:=by kernel_rfl
theorem yf45_0:tField Tryd.prog 45 0=some (0,3):=by kernel_rfl
theorem yf45_1:tField Tryd.prog 45 1=some (1,9):=by kernel_rfl
theorem yf45_2:tField Tryd.prog 45 2=some (2,9):=by kernel_rfl
theorem yf45_3:tField Tryd.prog 45 3=some (3,41):=by kernel_rfl
theorem yf45_4:tField Tryd.prog 45 4=some (4,41):=by kernel_rfl
theorem yf45_5:tField Tryd.prog 45 5=some (5,42):=by kernel_rfl
theorem yf45_6:tField Tryd.prog 45 6=some (6,43):=by kernel_rfl
theorem yf45_7:tField Tryd.prog 45 7=some (7,25):=by kernel_rfl
theorem yf45_8:tField Tryd.prog 45 8=some (8,25):=by kernel_rfl
theorem yf45_9:tField Tryd.prog 45 9=some (9,3):=by kernel_rfl
theorem yp45:tPlaces Tryd.prog 45=some [(0,1),(1,1),(2,1),(3,1),(4,1),(5,1),(6,1),(7,1),(8,1),(9,1)]:=by kernel_rfl
theorem ya49:tAgg Tryd.prog 49=some true:=by kernel_rfl
theorem ys49:tSize Tryd.prog 49=some 5:=by kernel_rfl
theorem yby49:tBytes Tryd.prog 49=some 48:=by kernel_rfl
theorem yz49:tZero Tryd.prog 49=some (.agg #[.int .i64 0,.int .i64 0,.string ByteArray.empty,.pointer none,.pointer none]):=by kernel_rfl
theorem yf49_0:tField Tryd.prog 49 0=some (0,3):=by kernel_rfl
theorem yf49_1:tField Tryd.prog 49 1=some (1,2):=by kernel_rfl
theorem yf49_2:tField Tryd.prog 49 2=some (2,9):=by kernel_rfl
theorem yf49_3:tField Tryd.prog 49 3=some (3,41):=by kernel_rfl
theorem yf49_4:tField Tryd.prog 49 4=some (4,41):=by kernel_rfl
theorem yp49:tPlaces Tryd.prog 49=some [(0,1),(1,1),(2,1),(3,1),(4,1)]:=by kernel_rfl
theorem ya50:tAgg Tryd.prog 50=some true:=by kernel_rfl
theorem ys50:tSize Tryd.prog 50=some 5:=by kernel_rfl
theorem yby50:tBytes Tryd.prog 50=some 48:=by kernel_rfl
theorem yz50:tZero Tryd.prog 50=some (.agg #[.int .i64 0,.int .i64 0,.string ByteArray.empty,.pointer none,.pointer none]):=by kernel_rfl
theorem yc50:tConc Tryd.prog 50=true:=by kernel_rfl
theorem yf50_0:tField Tryd.prog 50 0=some (0,3):=by kernel_rfl
theorem yf50_1:tField Tryd.prog 50 1=some (1,2):=by kernel_rfl
theorem yf50_2:tField Tryd.prog 50 2=some (2,9):=by kernel_rfl
theorem yf50_3:tField Tryd.prog 50 3=some (3,41):=by kernel_rfl
theorem yf50_4:tField Tryd.prog 50 4=some (4,41):=by kernel_rfl
theorem yp50:tPlaces Tryd.prog 50=some [(0,1),(1,1),(2,1),(3,1),(4,1)]:=by kernel_rfl
theorem ya51:tAgg Tryd.prog 51=some true:=by kernel_rfl
theorem ys51:tSize Tryd.prog 51=some 2:=by kernel_rfl
theorem yby51:tBytes Tryd.prog 51=some 24:=by kernel_rfl
theorem yz51:tZero Tryd.prog 51=some (.agg #[.string ByteArray.empty,.int .i64 0]):=by kernel_rfl
theorem yf51_0:tField Tryd.prog 51 0=some (0,9):=by kernel_rfl
theorem yf51_1:tField Tryd.prog 51 1=some (1,3):=by kernel_rfl
theorem yp51:tPlaces Tryd.prog 51=some [(0,1),(1,1)]:=by kernel_rfl
theorem ya52:tAgg Tryd.prog 52=some true:=by kernel_rfl
theorem ys52:tSize Tryd.prog 52=some 2:=by kernel_rfl
theorem yby52:tBytes Tryd.prog 52=some 24:=by kernel_rfl
theorem yz52:tZero Tryd.prog 52=some (.agg #[.string ByteArray.empty,.int .i64 0]):=by kernel_rfl
theorem yc52:tConc Tryd.prog 52=true:=by kernel_rfl
theorem yf52_0:tField Tryd.prog 52 0=some (0,9):=by kernel_rfl
theorem yf52_1:tField Tryd.prog 52 1=some (1,3):=by kernel_rfl
theorem yp52:tPlaces Tryd.prog 52=some [(0,1),(1,1)]:=by kernel_rfl
theorem yq52:tEq Tryd.prog 52=some [(0,.s),(1,.i)]:=by kernel_rfl
theorem ya53:tAgg Tryd.prog 53=some false:=by kernel_rfl
theorem ys53:tSize Tryd.prog 53=some 1:=by kernel_rfl
theorem yby53:tBytes Tryd.prog 53=some 8:=by kernel_rfl
theorem yz53:tZero Tryd.prog 53=some (.pointer none):=by kernel_rfl
theorem ypt53:tPtr Tryd.prog 53=some 60:=by kernel_rfl
theorem ya56:tAgg Tryd.prog 56=some false:=by kernel_rfl
theorem ys56:tSize Tryd.prog 56=some 1:=by kernel_rfl
theorem yby56:tBytes Tryd.prog 56=some 24:=by kernel_rfl
theorem yz56:tZero Tryd.prog 56=some (.slice none 0 0):=by kernel_rfl
theorem ye56:tElem Tryd.prog 56=some 84:=by kernel_rfl
theorem ya57:tAgg Tryd.prog 57=some true:=by kernel_rfl
theorem ys57:tSize Tryd.prog 57=some 3:=by kernel_rfl
theorem yby57:tBytes Tryd.prog 57=some 40:=by kernel_rfl
theorem yz57:tZero Tryd.prog 57=some (.agg #[.slice none 0 0,.int .i64 0,.int .i64 0]):=by kernel_rfl
theorem yf57_0:tField Tryd.prog 57 0=some (0,56):=by kernel_rfl
theorem yf57_1:tField Tryd.prog 57 1=some (1,3):=by kernel_rfl
theorem yf57_2:tField Tryd.prog 57 2=some (2,3):=by kernel_rfl
theorem yp57:tPlaces Tryd.prog 57=some [(0,1),(1,1),(2,1)]:=by kernel_rfl
theorem ya58:tAgg Tryd.prog 58=some true:=by kernel_rfl
theorem ys58:tSize Tryd.prog 58=some 3:=by kernel_rfl
theorem yby58:tBytes Tryd.prog 58=some 40:=by kernel_rfl
theorem yz58:tZero Tryd.prog 58=some (.agg #[.slice none 0 0,.int .i64 0,.int .i64 0]):=by kernel_rfl
theorem yc58:tConc Tryd.prog 58=true:=by kernel_rfl
theorem yf58_0:tField Tryd.prog 58 0=some (0,56):=by kernel_rfl
theorem yf58_1:tField Tryd.prog 58 1=some (1,3):=by kernel_rfl
theorem yf58_2:tField Tryd.prog 58 2=some (2,3):=by kernel_rfl
theorem yp58:tPlaces Tryd.prog 58=some [(0,1),(1,1),(2,1)]:=by kernel_rfl
theorem ya59:tAgg Tryd.prog 59=some true:=by kernel_rfl
theorem ys59:tSize Tryd.prog 59=some 7:=by kernel_rfl
theorem yby59:tBytes Tryd.prog 59=some 72:=by kernel_rfl
theorem yz59:tZero Tryd.prog 59=some (.agg #[.slice none 0 0,.int .i64 0,.int .i64 0,.int .i64 0,.int .i64 0,.int .i64 0,.int .i64 0]):=by kernel_rfl
theorem yf59_0:tField Tryd.prog 59 0=some (0,58):=by kernel_rfl
theorem yf59_1:tField Tryd.prog 59 1=some (3,3):=by kernel_rfl
theorem yf59_2:tField Tryd.prog 59 2=some (4,3):=by kernel_rfl
theorem yf59_3:tField Tryd.prog 59 3=some (5,3):=by kernel_rfl
theorem yf59_4:tField Tryd.prog 59 4=some (6,28):=by kernel_rfl
theorem yp59:tPlaces Tryd.prog 59=some [(0,3),(3,1),(4,1),(5,1),(6,1)]:=by kernel_rfl
theorem ya60:tAgg Tryd.prog 60=some true:=by kernel_rfl
theorem ys60:tSize Tryd.prog 60=some 7:=by kernel_rfl
theorem yby60:tBytes Tryd.prog 60=some 72:=by kernel_rfl
theorem yz60:tZero Tryd.prog 60=some (.agg #[.slice none 0 0,.int .i64 0,.int .i64 0,.int .i64 0,.int .i64 0,.int .i64 0,.int .i64 0]):=by kernel_rfl
theorem yc60:tConc Tryd.prog 60=true:=by kernel_rfl
theorem yf60_0:tField Tryd.prog 60 0=some (0,58):=by kernel_rfl
theorem yf60_1:tField Tryd.prog 60 1=some (3,3):=by kernel_rfl
theorem yf60_2:tField Tryd.prog 60 2=some (4,3):=by kernel_rfl
theorem yf60_3:tField Tryd.prog 60 3=some (5,3):=by kernel_rfl
theorem yf60_4:tField Tryd.prog 60 4=some (6,28):=by kernel_rfl
theorem yp60:tPlaces Tryd.prog 60=some [(0,3),(3,1),(4,1),(5,1),(6,1)]:=by kernel_rfl
theorem ya64:tAgg Tryd.prog 64=some false:=by kernel_rfl
theorem ys64:tSize Tryd.prog 64=some 1:=by kernel_rfl
theorem yby64:tBytes Tryd.prog 64=some 8:=by kernel_rfl
theorem yz64:tZero Tryd.prog 64=some (.pointer none):=by kernel_rfl
theorem ypt64:tPtr Tryd.prog 64=some 36:=by kernel_rfl
theorem ya71:tAgg Tryd.prog 71=some true:=by kernel_rfl
theorem ys71:tSize Tryd.prog 71=some 2:=by kernel_rfl
theorem yby71:tBytes Tryd.prog 71=some 24:=by kernel_rfl
theorem yz71:tZero Tryd.prog 71=some (.agg #[.string ByteArray.empty,.bool false]):=by kernel_rfl
theorem yf71_0:tField Tryd.prog 71 0=some (0,9):=by kernel_rfl
theorem yf71_1:tField Tryd.prog 71 1=some (1,4):=by kernel_rfl
theorem yp71:tPlaces Tryd.prog 71=some [(0,1),(1,1)]:=by kernel_rfl
theorem ya72:tAgg Tryd.prog 72=some true:=by kernel_rfl
theorem ys72:tSize Tryd.prog 72=some 2:=by kernel_rfl
theorem yby72:tBytes Tryd.prog 72=some 24:=by kernel_rfl
theorem yz72:tZero Tryd.prog 72=some (.agg #[.string ByteArray.empty,.bool false]):=by kernel_rfl
theorem yc72:tConc Tryd.prog 72=true:=by kernel_rfl
theorem yf72_0:tField Tryd.prog 72 0=some (0,9):=by kernel_rfl
theorem yf72_1:tField Tryd.prog 72 1=some (1,4):=by kernel_rfl
theorem yp72:tPlaces Tryd.prog 72=some [(0,1),(1,1)]:=by kernel_rfl
theorem yq72:tEq Tryd.prog 72=some [(0,.s),(1,.b)]:=by kernel_rfl
theorem ya83:tAgg Tryd.prog 83=some true:=by kernel_rfl
theorem ys83:tSize Tryd.prog 83=some 3:=by kernel_rfl
theorem yby83:tBytes Tryd.prog 83=some 32:=by kernel_rfl
theorem yz83:tZero Tryd.prog 83=some (.agg #[.int .i64 0,.string ByteArray.empty,.int .i64 0]):=by kernel_rfl
theorem yf83_0:tField Tryd.prog 83 0=some (0,3):=by kernel_rfl
theorem yf83_1:tField Tryd.prog 83 1=some (1,9):=by kernel_rfl
theorem yf83_2:tField Tryd.prog 83 2=some (2,3):=by kernel_rfl
theorem yp83:tPlaces Tryd.prog 83=some [(0,1),(1,1),(2,1)]:=by kernel_rfl
theorem ya84:tAgg Tryd.prog 84=some true:=by kernel_rfl
theorem ys84:tSize Tryd.prog 84=some 3:=by kernel_rfl
theorem yby84:tBytes Tryd.prog 84=some 32:=by kernel_rfl
theorem yz84:tZero Tryd.prog 84=some (.agg #[.int .i64 0,.string ByteArray.empty,.int .i64 0]):=by kernel_rfl
theorem yc84:tConc Tryd.prog 84=true:=by kernel_rfl
theorem yf84_0:tField Tryd.prog 84 0=some (0,3):=by kernel_rfl
theorem yf84_1:tField Tryd.prog 84 1=some (1,9):=by kernel_rfl
theorem yf84_2:tField Tryd.prog 84 2=some (2,3):=by kernel_rfl
theorem yp84:tPlaces Tryd.prog 84=some [(0,1),(1,1),(2,1)]:=by kernel_rfl
theorem yq84:tEq Tryd.prog 84=some [(0,.i),(1,.s),(2,.i)]:=by kernel_rfl
theorem ya115:tAgg Tryd.prog 115=some false:=by kernel_rfl
theorem ys115:tSize Tryd.prog 115=some 1:=by kernel_rfl
theorem yby115:tBytes Tryd.prog 115=some 8:=by kernel_rfl
theorem yz115:tZero Tryd.prog 115=some (.pointer none):=by kernel_rfl
theorem ypt115:tPtr Tryd.prog 115=some 111:=by kernel_rfl
theorem ya116:tAgg Tryd.prog 116=some true:=by kernel_rfl
theorem ys116:tSize Tryd.prog 116=some 6:=by kernel_rfl
theorem yby116:tBytes Tryd.prog 116=some 56:=by kernel_rfl
theorem yz116:tZero Tryd.prog 116=some (.agg #[.int .i64 0,.pointer none,.pointer none,.pointer none,.pointer none,.string ByteArray.empty]):=by kernel_rfl
theorem yf116_0:tField Tryd.prog 116 0=some (0,3):=by kernel_rfl
theorem yf116_1:tField Tryd.prog 116 1=some (1,41):=by kernel_rfl
theorem yf116_2:tField Tryd.prog 116 2=some (2,41):=by kernel_rfl
theorem yf116_3:tField Tryd.prog 116 3=some (3,42):=by kernel_rfl
theorem yf116_4:tField Tryd.prog 116 4=some (4,42):=by kernel_rfl
theorem yf116_5:tField Tryd.prog 116 5=some (5,9):=by kernel_rfl
theorem yp116:tPlaces Tryd.prog 116=some [(0,1),(1,1),(2,1),(3,1),(4,1),(5,1)]:=by kernel_rfl
theorem ya117:tAgg Tryd.prog 117=some true:=by kernel_rfl
theorem ys117:tSize Tryd.prog 117=some 6:=by kernel_rfl
theorem yby117:tBytes Tryd.prog 117=some 56:=by kernel_rfl
theorem yz117:tZero Tryd.prog 117=some (.agg #[.int .i64 0,.pointer none,.pointer none,.pointer none,.pointer none,.string ByteArray.empty]):=by kernel_rfl
theorem yc117:tConc Tryd.prog 117=true:=by kernel_rfl
theorem yf117_0:tField Tryd.prog 117 0=some (0,3):=by kernel_rfl
theorem yf117_1:tField Tryd.prog 117 1=some (1,41):=by kernel_rfl
theorem yf117_2:tField Tryd.prog 117 2=some (2,41):=by kernel_rfl
theorem yf117_3:tField Tryd.prog 117 3=some (3,42):=by kernel_rfl
theorem yf117_4:tField Tryd.prog 117 4=some (4,42):=by kernel_rfl
theorem yf117_5:tField Tryd.prog 117 5=some (5,9):=by kernel_rfl
theorem yp117:tPlaces Tryd.prog 117=some [(0,1),(1,1),(2,1),(3,1),(4,1),(5,1)]:=by kernel_rfl
theorem ya118:tAgg Tryd.prog 118=some true:=by kernel_rfl
theorem ys118:tSize Tryd.prog 118=some 3:=by kernel_rfl
theorem yby118:tBytes Tryd.prog 118=some 32:=by kernel_rfl
theorem yz118:tZero Tryd.prog 118=some (.agg #[.bool false,.string ByteArray.empty,.pointer none]):=by kernel_rfl
theorem yf118_0:tField Tryd.prog 118 0=some (0,4):=by kernel_rfl
theorem yf118_1:tField Tryd.prog 118 1=some (1,9):=by kernel_rfl
theorem yf118_2:tField Tryd.prog 118 2=some (2,41):=by kernel_rfl
theorem yp118:tPlaces Tryd.prog 118=some [(0,1),(1,1),(2,1)]:=by kernel_rfl
theorem ya119:tAgg Tryd.prog 119=some true:=by kernel_rfl
theorem ys119:tSize Tryd.prog 119=some 3:=by kernel_rfl
theorem yby119:tBytes Tryd.prog 119=some 32:=by kernel_rfl
theorem yz119:tZero Tryd.prog 119=some (.agg #[.bool false,.string ByteArray.empty,.pointer none]):=by kernel_rfl
theorem yc119:tConc Tryd.prog 119=true:=by kernel_rfl
theorem yf119_0:tField Tryd.prog 119 0=some (0,4):=by kernel_rfl
theorem yf119_1:tField Tryd.prog 119 1=some (1,9):=by kernel_rfl
theorem yf119_2:tField Tryd.prog 119 2=some (2,41):=by kernel_rfl
theorem yp119:tPlaces Tryd.prog 119=some [(0,1),(1,1),(2,1)]:=by kernel_rfl
theorem yf122_0:tField Tryd.prog 122 0=some (0,9):=by kernel_rfl
theorem yf122_1:tField Tryd.prog 122 1=some (1,9):=by kernel_rfl
theorem yf122_2:tField Tryd.prog 122 2=some (2,89):=by kernel_rfl
theorem yf123_0:tField Tryd.prog 123 0=some (0,9):=by kernel_rfl
theorem yf123_1:tField Tryd.prog 123 1=some (1,9):=by kernel_rfl
theorem yf123_2:tField Tryd.prog 123 2=some (2,89):=by kernel_rfl
theorem yf130_0:tField Tryd.prog 130 0=some (0,9):=by kernel_rfl
theorem yf131_0:tField Tryd.prog 131 0=some (0,9):=by kernel_rfl
theorem yf135_0:tField Tryd.prog 135 0=some (0,5):=by kernel_rfl
theorem yf135_1:tField Tryd.prog 135 1=some (1,5):=by kernel_rfl
theorem yf136_0:tField Tryd.prog 136 0=some (0,5):=by kernel_rfl
theorem yf136_1:tField Tryd.prog 136 1=some (1,5):=by kernel_rfl
theorem yf154_0:tField Tryd.prog 154 0=some (0,17):=by kernel_rfl
theorem yf154_1:tField Tryd.prog 154 1=some (1,17):=by kernel_rfl
theorem yf154_2:tField Tryd.prog 154 2=some (2,17):=by kernel_rfl
theorem yf154_3:tField Tryd.prog 154 3=some (3,9):=by kernel_rfl
theorem yf157_0:tField Tryd.prog 157 0=some (0,156):=by kernel_rfl
theorem yf164_0:tField Tryd.prog 164 0=some (0,12):=by kernel_rfl
theorem yf164_1:tField Tryd.prog 164 1=some (1,12):=by kernel_rfl
theorem yf164_2:tField Tryd.prog 164 2=some (2,148):=by kernel_rfl
theorem yf164_3:tField Tryd.prog 164 3=some (3,159):=by kernel_rfl
theorem yf164_4:tField Tryd.prog 164 4=some (4,5):=by kernel_rfl
theorem yf164_5:tField Tryd.prog 164 5=some (5,5):=by kernel_rfl
theorem yf164_6:tField Tryd.prog 164 6=some (6,160):=by kernel_rfl
theorem yf164_7:tField Tryd.prog 164 7=some (7,161):=by kernel_rfl
theorem yf164_8:tField Tryd.prog 164 8=some (8,128):=by kernel_rfl
theorem yf164_9:tField Tryd.prog 164 9=some (9,162):=by kernel_rfl
theorem yf164_10:tField Tryd.prog 164 10=some (10,163):=by kernel_rfl
end Go.Proofs.YtodppgiaimihfabDoor
