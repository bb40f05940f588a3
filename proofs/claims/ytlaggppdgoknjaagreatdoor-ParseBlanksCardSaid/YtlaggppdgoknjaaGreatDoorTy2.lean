/- Closed facts on the types of the program, for the second executor. No conditions. -/
import Derived.Test.YtlaggppdgoknjaaGreatDoorSyB
import Derived.Test.YtlaggppdgoknjaaGreatDoorRows
import Derived.KernelRfl
set_option linter.unusedVariables false
set_option linter.unusedSimpArgs false
namespace Go.Proofs.YtlaggppdgoknjaaGreatDoor
open Go Go.Sy
theorem ya2:tAgg Tryz.prog 2=some false:=by kernel_rfl
theorem ys2:tSize Tryz.prog 2=some 1:=by kernel_rfl
theorem yby2:tBytes Tryz.prog 2=some 8:=by kernel_rfl
theorem yz2:tZero Tryz.prog 2=some (.int .i64 0):=by kernel_rfl
theorem yi2:tInt Tryz.prog 2=some .i64:=by kernel_rfl
theorem ya3:tAgg Tryz.prog 3=some false:=by kernel_rfl
theorem ys3:tSize Tryz.prog 3=some 1:=by kernel_rfl
theorem yby3:tBytes Tryz.prog 3=some 8:=by kernel_rfl
theorem yz3:tZero Tryz.prog 3=some (.int .i64 0):=by kernel_rfl
theorem yi3:tInt Tryz.prog 3=some .i64:=by kernel_rfl
theorem ya4:tAgg Tryz.prog 4=some false:=by kernel_rfl
theorem ys4:tSize Tryz.prog 4=some 1:=by kernel_rfl
theorem yby4:tBytes Tryz.prog 4=some 1:=by kernel_rfl
theorem yz4:tZero Tryz.prog 4=some (.bool false):=by kernel_rfl
theorem yb4:Tryz.prog.underlying 4=some .bool:=by kernel_rfl
theorem ya5:tAgg Tryz.prog 5=some false:=by kernel_rfl
theorem ys5:tSize Tryz.prog 5=some 1:=by kernel_rfl
theorem yby5:tBytes Tryz.prog 5=some 1:=by kernel_rfl
theorem yz5:tZero Tryz.prog 5=some (.int .u8 0):=by kernel_rfl
theorem yi5:tInt Tryz.prog 5=some .u8:=by kernel_rfl
theorem yf7_0:tField Tryz.prog 7 0=some (0,2):=by kernel_rfl
theorem yf7_1:tField Tryz.prog 7 1=some (1,3):=by kernel_rfl
theorem yf7_2:tField Tryz.prog 7 2=some (2,4):=by kernel_rfl
theorem yf7_3:tField Tryz.prog 7 3=some (3,6):=by kernel_rfl
theorem ya9:tAgg Tryz.prog 9=some false:=by kernel_rfl
theorem ys9:tSize Tryz.prog 9=some 1:=by kernel_rfl
theorem yby9:tBytes Tryz.prog 9=some 16:=by kernel_rfl
theorem yz9:tZero Tryz.prog 9=some (.string ByteArray.empty):=by kernel_rfl
theorem yst9:tStr Tryz.prog 9=true:=by kernel_rfl
theorem yf13_0:tField Tryz.prog 13 0=some (0,9):=by kernel_rfl
theorem yf13_1:tField Tryz.prog 13 1=some (1,12):=by kernel_rfl
theorem yf18_0:tField Tryz.prog 18 0=some (0,17):=by kernel_rfl
theorem ya20:tAgg Tryz.prog 20=some false:=by kernel_rfl
theorem ys20:tSize Tryz.prog 20=some 1:=by kernel_rfl
theorem yby20:tBytes Tryz.prog 20=some 16:=by kernel_rfl
theorem yz20:tZero Tryz.prog 20=some (.nilIface):=by kernel_rfl
theorem ya21:tAgg Tryz.prog 21=some false:=by kernel_rfl
theorem ys21:tSize Tryz.prog 21=some 1:=by kernel_rfl
theorem yby21:tBytes Tryz.prog 21=some 4:=by kernel_rfl
theorem yz21:tZero Tryz.prog 21=some (.int .i32 0):=by kernel_rfl
theorem yi21:tInt Tryz.prog 21=some .i32:=by kernel_rfl
theorem ya22:tAgg Tryz.prog 22=some false:=by kernel_rfl
theorem ys22:tSize Tryz.prog 22=some 1:=by kernel_rfl
theorem yby22:tBytes Tryz.prog 22=some 24:=by kernel_rfl
theorem yz22:tZero Tryz.prog 22=some (.slice none 0 0):=by kernel_rfl
theorem ye22:tElem Tryz.prog 22=some 5:=by kernel_rfl
theorem ya26:tAgg Tryz.prog 26=some false:=by kernel_rfl
theorem ys26:tSize Tryz.prog 26=some 1:=by kernel_rfl
theorem yby26:tBytes Tryz.prog 26=some 24:=by kernel_rfl
theorem yz26:tZero Tryz.prog 26=some (.slice none 0 0):=by kernel_rfl
theorem ye26:tElem Tryz.prog 26=some 31:=by kernel_rfl
theorem ya29:tAgg Tryz.prog 29=some false:=by kernel_rfl
theorem ys29:tSize Tryz.prog 29=some 1:=by kernel_rfl
theorem yby29:tBytes Tryz.prog 29=some 24:=by kernel_rfl
theorem yz29:tZero Tryz.prog 29=some (.slice none 0 0):=by kernel_rfl
theorem ye29:tElem Tryz.prog 29=some 9:=by kernel_rfl
theorem ya30:tAgg Tryz.prog 30=some true:=by kernel_rfl
theorem ys30:tSize Tryz.prog 30=some 3:=by kernel_rfl
theorem yby30:tBytes Tryz.prog 30=some 32:=by kernel_rfl
theorem yz30:tZero Tryz.prog 30=some (.agg #[.int .i64 0,.string ByteArray.empty,.int .i64 0]):=by kernel_rfl
theorem yf30_0:tField Tryz.prog 30 0=some (0,3):=by kernel_rfl
theorem yf30_1:tField Tryz.prog 30 1=some (1,9):=by kernel_rfl
theorem yf30_2:tField Tryz.prog 30 2=some (2,3):=by kernel_rfl
theorem yp30:tPlaces Tryz.prog 30=some [(0,1),(1,1),(2,1)]:=by kernel_rfl
theorem ya31:tAgg Tryz.prog 31=some true:=by kernel_rfl
theorem ys31:tSize Tryz.prog 31=some 3:=by kernel_rfl
theorem yby31:tBytes Tryz.prog 31=some 32:=by kernel_rfl
theorem yz31:tZero Tryz.prog 31=some (.agg #[.int .i64 0,.string ByteArray.empty,.int .i64 0]):=by kernel_rfl
theorem yc31:tConc Tryz.prog 31=true:=by kernel_rfl
theorem yf31_0:tField Tryz.prog 31 0=some (0,3):=by kernel_rfl
theorem yf31_1:tField Tryz.prog 31 1=some (1,9):=by kernel_rfl
theorem yf31_2:tField Tryz.prog 31 2=some (2,3):=by kernel_rfl
theorem yp31:tPlaces Tryz.prog 31=some [(0,1),(1,1),(2,1)]:=by kernel_rfl
theorem yq31:tEq Tryz.prog 31=some [(0,.i),(1,.s),(2,.i)]:=by kernel_rfl
theorem ya32:tAgg Tryz.prog 32=some false:=by kernel_rfl
theorem ys32:tSize Tryz.prog 32=some 1:=by kernel_rfl
theorem yby32:tBytes Tryz.prog 32=some 24:=by kernel_rfl
theorem yz32:tZero Tryz.prog 32=some (.slice none 0 0):=by kernel_rfl
theorem ye32:tElem Tryz.prog 32=some 92:=by kernel_rfl
theorem ya33:tAgg Tryz.prog 33=some false:=by kernel_rfl
theorem ys33:tSize Tryz.prog 33=some 1:=by kernel_rfl
theorem yby33:tBytes Tryz.prog 33=some 24:=by kernel_rfl
theorem yz33:tZero Tryz.prog 33=some (.slice none 0 0):=by kernel_rfl
theorem ye33:tElem Tryz.prog 33=some 53:=by kernel_rfl
theorem ya34:tAgg Tryz.prog 34=some true:=by kernel_rfl
theorem ys34:tSize Tryz.prog 34=some 4:=by kernel_rfl
theorem yby34:tBytes Tryz.prog 34=some 88:=by kernel_rfl
theorem yz34:tZero Tryz.prog 34=some (.agg #[.string ByteArray.empty,.slice none 0 0,.slice none 0 0,.slice none 0 0]):=by kernel_rfl
theorem yf34_0:tField Tryz.prog 34 0=some (0,9):=by kernel_rfl
theorem yf34_1:tField Tryz.prog 34 1=some (1,32):=by kernel_rfl
theorem yf34_2:tField Tryz.prog 34 2=some (2,32):=by kernel_rfl
theorem yf34_3:tField Tryz.prog 34 3=some (3,33):=by kernel_rfl
theorem yp34:tPlaces Tryz.prog 34=some [(0,1),(1,1),(2,1),(3,1)]:=by kernel_rfl
theorem ya35:tAgg Tryz.prog 35=some true:=by kernel_rfl
theorem ys35:tSize Tryz.prog 35=some 4:=by kernel_rfl
theorem yby35:tBytes Tryz.prog 35=some 88:=by kernel_rfl
theorem yz35:tZero Tryz.prog 35=some (.agg #[.string ByteArray.empty,.slice none 0 0,.slice none 0 0,.slice none 0 0]):=by kernel_rfl
theorem yc35:tConc Tryz.prog 35=true:=by kernel_rfl
theorem yf35_0:tField Tryz.prog 35 0=some (0,9):=by kernel_rfl
theorem yf35_1:tField Tryz.prog 35 1=some (1,32):=by kernel_rfl
theorem yf35_2:tField Tryz.prog 35 2=some (2,32):=by kernel_rfl
theorem yf35_3:tField Tryz.prog 35 3=some (3,33):=by kernel_rfl
theorem yp35:tPlaces Tryz.prog 35=some [(0,1),(1,1),(2,1),(3,1)]:=by kernel_rfl
theorem ya36:tAgg Tryz.prog 36=some false:=by kernel_rfl
theorem ys36:tSize Tryz.prog 36=some 1:=by kernel_rfl
theorem yby36:tBytes Tryz.prog 36=some 8:=by kernel_rfl
theorem yz36:tZero Tryz.prog 36=some (.int .i64 0):=by kernel_rfl
theorem yc36:tConc Tryz.prog 36=true:=by kernel_rfl
theorem yi36:tInt Tryz.prog 36=some .i64:=by kernel_rfl
theorem ya44:tAgg Tryz.prog 44=some false:=by kernel_rfl
theorem ys44:tSize Tryz.prog 44=some 1:=by kernel_rfl
theorem yby44:tBytes Tryz.prog 44=some 24:=by kernel_rfl
theorem yz44:tZero Tryz.prog 44=some (.slice none 0 0):=by kernel_rfl
theorem ye44:tElem Tryz.prog 44=some 57:=by kernel_rfl
theorem ya45:tAgg Tryz.prog 45=some true:=by kernel_rfl
theorem ys45:tSize Tryz.prog 45=some 2:=by kernel_rfl
theorem yby45:tBytes Tryz.prog 45=some 48:=by kernel_rfl
theorem yz45:tZero Tryz.prog 45=some (.agg #[.slice none 0 0,.slice none 0 0]):=by kernel_rfl
theorem yf45_0:tField Tryz.prog 45 0=some (0,29):=by kernel_rfl
theorem yf45_1:tField Tryz.prog 45 1=some (1,44):=by kernel_rfl
theorem yp45:tPlaces Tryz.prog 45=some [(0,1),(1,1)]:=by kernel_rfl
theorem ya46:tAgg Tryz.prog 46=some true:=by kernel_rfl
theorem ys46:tSize Tryz.prog 46=some 2:=by kernel_rfl
theorem yby46:tBytes Tryz.prog 46=some 48:=by kernel_rfl
theorem yz46:tZero Tryz.prog 46=some (.agg #[.slice none 0 0,.slice none 0 0]):=by kernel_rfl
theorem yc46:tConc Tryz.prog 46=true:=by kernel_rfl
theorem yf46_0:tField Tryz.prog 46 0=some (0,29):=by kernel_rfl
theorem yf46_1:tField Tryz.prog 46 1=some (1,44):=by kernel_rfl
theorem yp46:tPlaces Tryz.prog 46=some [(0,1),(1,1)]:=by kernel_rfl
theorem ya49:tAgg Tryz.prog 49=some false:=by kernel_rfl
theorem ys49:tSize Tryz.prog 49=some 1:=by kernel_rfl
theorem yby49:tBytes Tryz.prog 49=some 8:=by kernel_rfl
theorem yz49:tZero Tryz.prog 49=some (.pointer none):=by kernel_rfl
theorem ypt49:tPtr Tryz.prog 49=some 55:=by kernel_rfl
theorem ya50:tAgg Tryz.prog 50=some false:=by kernel_rfl
theorem ys50:tSize Tryz.prog 50=some 1:=by kernel_rfl
theorem yby50:tBytes Tryz.prog 50=some 8:=by kernel_rfl
theorem yz50:tZero Tryz.prog 50=some (.pointer none):=by kernel_rfl
theorem ypt50:tPtr Tryz.prog 50=some 119:=by kernel_rfl
theorem ya51:tAgg Tryz.prog 51=some false:=by kernel_rfl
theorem ys51:tSize Tryz.prog 51=some 1:=by kernel_rfl
theorem yby51:tBytes Tryz.prog 51=some 24:=by kernel_rfl
theorem yz51:tZero Tryz.prog 51=some (.slice none 0 0):=by kernel_rfl
theorem ye51:tElem Tryz.prog 51=some 105:=by kernel_rfl
theorem ya52:tAgg Tryz.prog 52=some true:=by kernel_rfl
theorem ys52:tSize Tryz.prog 52=some 10:=by kernel_rfl
theorem yby52:tBytes Tryz.prog 52=some 144:=by kernel_rfl
theorem yz52:tZero Tryz.prog 52=some (.agg #[.int .i64 0,.string ByteArray.empty,.string ByteArray.empty,.pointer none,.pointer none,.pointer none,.slice none 0 0,.slice none 0 0,.slice none 0 0,.int .i64 0]):=by kernel_rfl
theorem yf52_0:tField Tryz.prog 52 0=some (0,3):=by kernel_rfl
theorem yf52_1:tField Tryz.prog 52 1=some (1,9):=by kernel_rfl
theorem yf52_2:tField Tryz.prog 52 2=some (2,9):=by kernel_rfl
theorem yf52_3:tField Tryz.prog 52 3=some (3,49):=by kernel_rfl
theorem yf52_4:tField Tryz.prog 52 4=some (4,49):=by kernel_rfl
theorem yf52_5:tField Tryz.prog 52 5=some (5,50):=by kernel_rfl
theorem yf52_6:tField Tryz.prog 52 6=some (6,51):=by kernel_rfl
theorem yf52_7:tField Tryz.prog 52 7=some (7,33):=by kernel_rfl
theorem yf52_8:tField Tryz.prog 52 8=some (8,33):=by kernel_rfl
theorem yf52_9:tField Tryz.prog 52 9=some (9,3):=by kernel_rfl
theorem yp52:tPlaces Tryz.prog 52=some [(0,1),(1,1),(2,1),(3,1),(4,1),(5,1),(6,1),(7,1),(8,1),(9,1)]:=by kernel_rfl
theorem ya53:tAgg Tryz.prog 53=some true:=by kernel_rfl
theorem ys53:tSize Tryz.prog 53=some 10:=by kernel_rfl
theorem yby53:tBytes Tryz.prog 53=some 144:=by kernel_rfl
theorem yz53:tZero Tryz.prog 53=some (.agg #[.int .i64 0,.string ByteArray.empty,.string ByteArray.empty,.pointer none,.pointer none,.pointer none,.slice none 0 0,.slice none 0 0,.slice none 0 0,.int .i64 0]):=by kernel_rfl
theorem yc53:tConc Tryz.prog 53=true:=by kernel_rfl
theorem yf53_0:tField Tryz.prog 53 0=some (0,3):=by kernel_rfl
theorem yf53_1:tField Tryz.prog 53 1=some (1,9):=by kernel_rfl
theorem yf53_2:tField Tryz.prog 53 2=some (2,9):=by kernel_rfl
theorem yf53_3:tField Tryz.prog 53 3=some (3,49):=by kernel_rfl
theorem yf53_4:tField Tryz.prog 53 4=some (4,49):=by kernel_rfl
theorem yf53_5:tField Tryz.prog 53 5=some (5,50):=by kernel_rfl
theorem yf53_6:tField Tryz.prog 53 6=some (6,51):=by kernel_rfl
theorem yf53_7:tField Tryz.prog 53 7=some (7,33):=by kernel_rfl
theorem yf53_8:tField Tryz.prog 53 8=some (8,33):=by kernel_rfl
theorem yf53_9:tField Tryz.prog 53 9=some (9,3):=by kernel_rfl
theorem yp53:tPlaces Tryz.prog 53=some [(0,1),(1,1),(2,1),(3,1),(4,1),(5,1),(6,1),(7,1),(8,1),(9,1)]:=by kernel_rfl
theorem ya54:tAgg Tryz.prog 54=some true:=by kernel_rfl
theorem ys54:tSize Tryz.prog 54=some 5:=by kernel_rfl
theorem yby54:tBytes Tryz.prog 54=some 48:=by kernel_rfl
theorem yz54:tZero Tryz.prog 54=some (.agg #[.int .i64 0,.int .i64 0,.string ByteArray.empty,.pointer none,.pointer none]):=by kernel_rfl
theorem yf54_0:tField Tryz.prog 54 0=some (0,3):=by kernel_rfl
theorem yf54_1:tField Tryz.prog 54 1=some (1,2):=by kernel_rfl
theorem yf54_2:tField Tryz.prog 54 2=some (2,9):=by kernel_rfl
theorem yf54_3:tField Tryz.prog 54 3=some (3,49):=by kernel_rfl
theorem yf54_4:tField Tryz.prog 54 4=some (4,49):=by kernel_rfl
theorem yp54:tPlaces Tryz.prog 54=some [(0,1),(1,1),(2,1),(3,1),(4,1)]:=by kernel_rfl
theorem ya55:tAgg Tryz.prog 55=some true:=by kernel_rfl
theorem ys55:tSize Tryz.prog 55=some 5:=by kernel_rfl
theorem yby55:tBytes Tryz.prog 55=some 48:=by kernel_rfl
theorem yz55:tZero Tryz.prog 55=some (.agg #[.int .i64 0,.int .i64 0,.string ByteArray.empty,.pointer none,.pointer none]):=by kernel_rfl
theorem yc55:tConc Tryz.prog 55=true:=by kernel_rfl
theorem yf55_0:tField Tryz.prog 55 0=some (0,3):=by kernel_rfl
theorem yf55_1:tField Tryz.prog 55 1=some (1,2):=by kernel_rfl
theorem yf55_2:tField Tryz.prog 55 2=some (2,9):=by kernel_rfl
theorem yf55_3:tField Tryz.prog 55 3=some (3,49):=by kernel_rfl
theorem yf55_4:tField Tryz.prog 55 4=some (4,49):=by kernel_rfl
theorem yp55:tPlaces Tryz.prog 55=some [(0,1),(1,1),(2,1),(3,1),(4,1)]:=by kernel_rfl
theorem ya56:tAgg Tryz.prog 56=some true:=by kernel_rfl
theorem ys56:tSize Tryz.prog 56=some 2:=by kernel_rfl
theorem yby56:tBytes Tryz.prog 56=some 24:=by kernel_rfl
theorem yz56:tZero Tryz.prog 56=some (.agg #[.string ByteArray.empty,.int .i64 0]):=by kernel_rfl
theorem yf56_0:tField Tryz.prog 56 0=some (0,9):=by kernel_rfl
theorem yf56_1:tField Tryz.prog 56 1=some (1,3):=by kernel_rfl
theorem yp56:tPlaces Tryz.prog 56=some [(0,1),(1,1)]:=by kernel_rfl
theorem ya57:tAgg Tryz.prog 57=some true:=by kernel_rfl
theorem ys57:tSize Tryz.prog 57=some 2:=by kernel_rfl
theorem yby57:tBytes Tryz.prog 57=some 24:=by kernel_rfl
theorem yz57:tZero Tryz.prog 57=some (.agg #[.string ByteArray.empty,.int .i64 0]):=by kernel_rfl
theorem yc57:tConc Tryz.prog 57=true:=by kernel_rfl
theorem yf57_0:tField Tryz.prog 57 0=some (0,9):=by kernel_rfl
theorem yf57_1:tField Tryz.prog 57 1=some (1,3):=by kernel_rfl
theorem yp57:tPlaces Tryz.prog 57=some [(0,1),(1,1)]:=by kernel_rfl
theorem yq57:tEq Tryz.prog 57=some [(0,.s),(1,.i)]:=by kernel_rfl
theorem ya58:tAgg Tryz.prog 58=some false:=by kernel_rfl
theorem ys58:tSize Tryz.prog 58=some 1:=by kernel_rfl
theorem yby58:tBytes Tryz.prog 58=some 8:=by kernel_rfl
theorem yz58:tZero Tryz.prog 58=some (.pointer none):=by kernel_rfl
theorem ypt58:tPtr Tryz.prog 58=some 60:=by kernel_rfl
theorem ya59:tAgg Tryz.prog 59=some true:=by kernel_rfl
theorem ys59:tSize Tryz.prog 59=some 3:=by kernel_rfl
theorem yby59:tBytes Tryz.prog 59=some 40:=by kernel_rfl
theorem yz59:tZero Tryz.prog 59=some (.agg #[.slice none 0 0,.int .i64 0,.int .i64 0]):=by kernel_rfl
theorem yf59_0:tField Tryz.prog 59 0=some (0,22):=by kernel_rfl
theorem yf59_1:tField Tryz.prog 59 1=some (1,3):=by kernel_rfl
theorem yf59_2:tField Tryz.prog 59 2=some (2,3):=by kernel_rfl
theorem yp59:tPlaces Tryz.prog 59=some [(0,1),(1,1),(2,1)]:=by kernel_rfl
theorem ya60:tAgg Tryz.prog 60=some true:=by kernel_rfl
theorem ys60:tSize Tryz.prog 60=some 3:=by kernel_rfl
theorem yby60:tBytes Tryz.prog 60=some 40:=by kernel_rfl
theorem yz60:tZero Tryz.prog 60=some (.agg #[.slice none 0 0,.int .i64 0,.int .i64 0]):=by kernel_rfl
theorem yc60:tConc Tryz.prog 60=true:=by kernel_rfl
theorem yf60_0:tField Tryz.prog 60 0=some (0,22):=by kernel_rfl
theorem yf60_1:tField Tryz.prog 60 1=some (1,3):=by kernel_rfl
theorem yf60_2:tField Tryz.prog 60 2=some (2,3):=by kernel_rfl
theorem yp60:tPlaces Tryz.prog 60=some [(0,1),(1,1),(2,1)]:=by kernel_rfl
theorem ya66:tAgg Tryz.prog 66=some false:=by kernel_rfl
theorem ys66:tSize Tryz.prog 66=some 1:=by kernel_rfl
theorem yby66:tBytes Tryz.prog 66=some 8:=by kernel_rfl
theorem yz66:tZero Tryz.prog 66=some (.int .u64 0):=by kernel_rfl
theorem yi66:tInt Tryz.prog 66=some .u64:=by kernel_rfl
theorem ya68:tAgg Tryz.prog 68=some false:=by kernel_rfl
theorem ys68:tSize Tryz.prog 68=some 1:=by kernel_rfl
theorem yby68:tBytes Tryz.prog 68=some 8:=by kernel_rfl
theorem yz68:tZero Tryz.prog 68=some (.pointer none):=by kernel_rfl
theorem ypt68:tPtr Tryz.prog 68=some 74:=by kernel_rfl
theorem ya71:tAgg Tryz.prog 71=some true:=by kernel_rfl
theorem ys71:tSize Tryz.prog 71=some 3:=by kernel_rfl
theorem yby71:tBytes Tryz.prog 71=some 40:=by kernel_rfl
theorem yz71:tZero Tryz.prog 71=some (.agg #[.slice none 0 0,.int .i64 0,.int .i64 0]):=by kernel_rfl
theorem yf71_0:tField Tryz.prog 71 0=some (0,26):=by kernel_rfl
theorem yf71_1:tField Tryz.prog 71 1=some (1,3):=by kernel_rfl
theorem yf71_2:tField Tryz.prog 71 2=some (2,3):=by kernel_rfl
theorem yp71:tPlaces Tryz.prog 71=some [(0,1),(1,1),(2,1)]:=by kernel_rfl
theorem ya72:tAgg Tryz.prog 72=some true:=by kernel_rfl
theorem ys72:tSize Tryz.prog 72=some 3:=by kernel_rfl
theorem yby72:tBytes Tryz.prog 72=some 40:=by kernel_rfl
theorem yz72:tZero Tryz.prog 72=some (.agg #[.slice none 0 0,.int .i64 0,.int .i64 0]):=by kernel_rfl
theorem yc72:tConc Tryz.prog 72=true:=by kernel_rfl
theorem yf72_0:tField Tryz.prog 72 0=some (0,26):=by kernel_rfl
theorem yf72_1:tField Tryz.prog 72 1=some (1,3):=by kernel_rfl
theorem yf72_2:tField Tryz.prog 72 2=some (2,3):=by kernel_rfl
theorem yp72:tPlaces Tryz.prog 72=some [(0,1),(1,1),(2,1)]:=by kernel_rfl
theorem ya73:tAgg Tryz.prog 73=some true:=by kernel_rfl
theorem ys73:tSize Tryz.prog 73=some 7:=by kernel_rfl
theorem yby73:tBytes Tryz.prog 73=some 72:=by kernel_rfl
theorem yz73:tZero Tryz.prog 73=some (.agg #[.slice none 0 0,.int .i64 0,.int .i64 0,.int .i64 0,.int .i64 0,.int .i64 0,.int .i64 0]):=by kernel_rfl
theorem yf73_0:tField Tryz.prog 73 0=some (0,72):=by kernel_rfl
theorem yf73_1:tField Tryz.prog 73 1=some (3,3):=by kernel_rfl
theorem yf73_2:tField Tryz.prog 73 2=some (4,3):=by kernel_rfl
theorem yf73_3:tField Tryz.prog 73 3=some (5,3):=by kernel_rfl
theorem yf73_4:tField Tryz.prog 73 4=some (6,36):=by kernel_rfl
theorem yp73:tPlaces Tryz.prog 73=some [(0,3),(3,1),(4,1),(5,1),(6,1)]:=by kernel_rfl
theorem ya74:tAgg Tryz.prog 74=some true:=by kernel_rfl
theorem ys74:tSize Tryz.prog 74=some 7:=by kernel_rfl
theorem yby74:tBytes Tryz.prog 74=some 72:=by kernel_rfl
theorem yz74:tZero Tryz.prog 74=some (.agg #[.slice none 0 0,.int .i64 0,.int .i64 0,.int .i64 0,.int .i64 0,.int .i64 0,.int .i64 0]):=by kernel_rfl
theorem yc74:tConc Tryz.prog 74=true:=by kernel_rfl
theorem yf74_0:tField Tryz.prog 74 0=some (0,72):=by kernel_rfl
theorem yf74_1:tField Tryz.prog 74 1=some (3,3):=by kernel_rfl
theorem yf74_2:tField Tryz.prog 74 2=some (4,3):=by kernel_rfl
theorem yf74_3:tField Tryz.prog 74 3=some (5,3):=by kernel_rfl
theorem yf74_4:tField Tryz.prog 74 4=some (6,36):=by kernel_rfl
theorem yp74:tPlaces Tryz.prog 74=some [(0,3),(3,1),(4,1),(5,1),(6,1)]:=by kernel_rfl
theorem ya79:tAgg Tryz.prog 79=some false:=by kernel_rfl
theorem ys79:tSize Tryz.prog 79=some 1:=by kernel_rfl
theorem yby79:tBytes Tryz.prog 79=some 8:=by kernel_rfl
theorem yz79:tZero Tryz.prog 79=some (.pointer none):=by kernel_rfl
theorem ypt79:tPtr Tryz.prog 79=some 81:=by kernel_rfl
theorem ya80:tAgg Tryz.prog 80=some true:=by kernel_rfl
theorem ys80:tSize Tryz.prog 80=some 7:=by kernel_rfl
theorem yby80:tBytes Tryz.prog 80=some 72:=by kernel_rfl
theorem yz80:tZero Tryz.prog 80=some (.agg #[.slice none 0 0,.int .i64 0,.int .i64 0,.int .i64 0,.int .i64 0,.int .i64 0,.int .i64 0]):=by kernel_rfl
theorem yf80_0:tField Tryz.prog 80 0=some (0,26):=by kernel_rfl
theorem yf80_1:tField Tryz.prog 80 1=some (1,3):=by kernel_rfl
theorem yf80_2:tField Tryz.prog 80 2=some (2,3):=by kernel_rfl
theorem yf80_3:tField Tryz.prog 80 3=some (3,3):=by kernel_rfl
theorem yf80_4:tField Tryz.prog 80 4=some (4,3):=by kernel_rfl
theorem yf80_5:tField Tryz.prog 80 5=some (5,3):=by kernel_rfl
theorem yf80_6:tField Tryz.prog 80 6=some (6,3):=by kernel_rfl
theorem yp80:tPlaces Tryz.prog 80=some [(0,1),(1,1),(2,1),(3,1),(4,1),(5,1),(6,1)]:=by kernel_rfl
theorem ya81:tAgg Tryz.prog 81=some true:=by kernel_rfl
theorem ys81:tSize Tryz.prog 81=some 7:=by kernel_rfl
theorem yby81:tBytes Tryz.prog 81=some 72:=by kernel_rfl
theorem yz81:tZero Tryz.prog 81=some (.agg #[.slice none 0 0,.int .i64 0,.int .i64 0,.int .i64 0,.int .i64 0,.int .i64 0,.int .i64 0]):=by kernel_rfl
theorem yc81:tConc Tryz.prog 81=true:=by kernel_rfl
theorem yf81_0:tField Tryz.prog 81 0=some (0,26):=by kernel_rfl
theorem yf81_1:tField Tryz.prog 81 1=some (1,3):=by kernel_rfl
theorem yf81_2:tField Tryz.prog 81 2=some (2,3):=by kernel_rfl
theorem yf81_3:tField Tryz.prog 81 3=some (3,3):=by kernel_rfl
theorem yf81_4:tField Tryz.prog 81 4=some (4,3):=by kernel_rfl
theorem yf81_5:tField Tryz.prog 81 5=some (5,3):=by kernel_rfl
theorem yf81_6:tField Tryz.prog 81 6=some (6,3):=by kernel_rfl
theorem yp81:tPlaces Tryz.prog 81=some [(0,1),(1,1),(2,1),(3,1),(4,1),(5,1),(6,1)]:=by kernel_rfl
theorem ya88:tAgg Tryz.prog 88=some false:=by kernel_rfl
theorem ys88:tSize Tryz.prog 88=some 1:=by kernel_rfl
theorem yby88:tBytes Tryz.prog 88=some 8:=by kernel_rfl
theorem yz88:tZero Tryz.prog 88=some (.pointer none):=by kernel_rfl
theorem ypt88:tPtr Tryz.prog 88=some 46:=by kernel_rfl
theorem ya91:tAgg Tryz.prog 91=some true:=by kernel_rfl
theorem ys91:tSize Tryz.prog 91=some 2:=by kernel_rfl
theorem yby91:tBytes Tryz.prog 91=some 24:=by kernel_rfl
theorem yz91:tZero Tryz.prog 91=some (.agg #[.string ByteArray.empty,.bool false]):=by kernel_rfl
theorem yf91_0:tField Tryz.prog 91 0=some (0,9):=by kernel_rfl
theorem yf91_1:tField Tryz.prog 91 1=some (1,4):=by kernel_rfl
theorem yp91:tPlaces Tryz.prog 91=some [(0,1),(1,1)]:=by kernel_rfl
theorem ya92:tAgg Tryz.prog 92=some true:=by kernel_rfl
theorem ys92:tSize Tryz.prog 92=some 2:=by kernel_rfl
theorem yby92:tBytes Tryz.prog 92=some 24:=by kernel_rfl
theorem yz92:tZero Tryz.prog 92=some (.agg #[.string ByteArray.empty,.bool false]):=by kernel_rfl
theorem yc92:tConc Tryz.prog 92=true:=by kernel_rfl
theorem yf92_0:tField Tryz.prog 92 0=some (0,9):=by kernel_rfl
theorem yf92_1:tField Tryz.prog 92 1=some (1,4):=by kernel_rfl
theorem yp92:tPlaces Tryz.prog 92=some [(0,1),(1,1)]:=by kernel_rfl
theorem yq92:tEq Tryz.prog 92=some [(0,.s),(1,.b)]:=by kernel_rfl
theorem ya104:tAgg Tryz.prog 104=some true:=by kernel_rfl
theorem ys104:tSize Tryz.prog 104=some 3:=by kernel_rfl
theorem yby104:tBytes Tryz.prog 104=some 32:=by kernel_rfl
theorem yz104:tZero Tryz.prog 104=some (.agg #[.bool false,.string ByteArray.empty,.pointer none]):=by kernel_rfl
theorem yf104_0:tField Tryz.prog 104 0=some (0,4):=by kernel_rfl
theorem yf104_1:tField Tryz.prog 104 1=some (1,9):=by kernel_rfl
theorem yf104_2:tField Tryz.prog 104 2=some (2,49):=by kernel_rfl
theorem yp104:tPlaces Tryz.prog 104=some [(0,1),(1,1),(2,1)]:=by kernel_rfl
theorem ya105:tAgg Tryz.prog 105=some true:=by kernel_rfl
theorem ys105:tSize Tryz.prog 105=some 3:=by kernel_rfl
theorem yby105:tBytes Tryz.prog 105=some 32:=by kernel_rfl
theorem yz105:tZero Tryz.prog 105=some (.agg #[.bool false,.string ByteArray.empty,.pointer none]):=by kernel_rfl
theorem yc105:tConc Tryz.prog 105=true:=by kernel_rfl
theorem yf105_0:tField Tryz.prog 105 0=some (0,4):=by kernel_rfl
theorem yf105_1:tField Tryz.prog 105 1=some (1,9):=by kernel_rfl
theorem yf105_2:tField Tryz.prog 105 2=some (2,49):=by kernel_rfl
theorem yp105:tPlaces Tryz.prog 105=some [(0,1),(1,1),(2,1)]:=by kernel_rfl
theorem ya118:tAgg Tryz.prog 118=some true:=by kernel_rfl
theorem ys118:tSize Tryz.prog 118=some 6:=by kernel_rfl
theorem yby118:tBytes Tryz.prog 118=some 56:=by kernel_rfl
theorem yz118:tZero Tryz.prog 118=some (.agg #[.int .i64 0,.pointer none,.pointer none,.pointer none,.pointer none,.string ByteArray.empty]):=by kernel_rfl
theorem yf118_0:tField Tryz.prog 118 0=some (0,3):=by kernel_rfl
theorem yf118_1:tField Tryz.prog 118 1=some (1,49):=by kernel_rfl
theorem yf118_2:tField Tryz.prog 118 2=some (2,49):=by kernel_rfl
theorem yf118_3:tField Tryz.prog 118 3=some (3,50):=by kernel_rfl
theorem yf118_4:tField Tryz.prog 118 4=some (4,50):=by kernel_rfl
theorem yf118_5:tField Tryz.prog 118 5=some (5,9):=by kernel_rfl
theorem yp118:tPlaces Tryz.prog 118=some [(0,1),(1,1),(2,1),(3,1),(4,1),(5,1)]:=by kernel_rfl
theorem ya119:tAgg Tryz.prog 119=some true:=by kernel_rfl
theorem ys119:tSize Tryz.prog 119=some 6:=by kernel_rfl
theorem yby119:tBytes Tryz.prog 119=some 56:=by kernel_rfl
theorem yz119:tZero Tryz.prog 119=some (.agg #[.int .i64 0,.pointer none,.pointer none,.pointer none,.pointer none,.string ByteArray.empty]):=by kernel_rfl
theorem yc119:tConc Tryz.prog 119=true:=by kernel_rfl
theorem yf119_0:tField Tryz.prog 119 0=some (0,3):=by kernel_rfl
theorem yf119_1:tField Tryz.prog 119 1=some (1,49):=by kernel_rfl
theorem yf119_2:tField Tryz.prog 119 2=some (2,49):=by kernel_rfl
theorem yf119_3:tField Tryz.prog 119 3=some (3,50):=by kernel_rfl
theorem yf119_4:tField Tryz.prog 119 4=some (4,50):=by kernel_rfl
theorem yf119_5:tField Tryz.prog 119 5=some (5,9):=by kernel_rfl
theorem yp119:tPlaces Tryz.prog 119=some [(0,1),(1,1),(2,1),(3,1),(4,1),(5,1)]:=by kernel_rfl
theorem ya135:tAgg Tryz.prog 135=some false:=by kernel_rfl
theorem ys135:tSize Tryz.prog 135=some 1:=by kernel_rfl
theorem yby135:tBytes Tryz.prog 135=some 8:=by kernel_rfl
theorem yz135:tZero Tryz.prog 135=some (.pointer none):=by kernel_rfl
theorem ypt135:tPtr Tryz.prog 135=some 131:=by kernel_rfl
theorem yf139_0:tField Tryz.prog 139 0=some (0,9):=by kernel_rfl
theorem yf139_1:tField Tryz.prog 139 1=some (1,9):=by kernel_rfl
theorem yf139_2:tField Tryz.prog 139 2=some (2,114):=by kernel_rfl
theorem yf140_0:tField Tryz.prog 140 0=some (0,9):=by kernel_rfl
theorem yf140_1:tField Tryz.prog 140 1=some (1,9):=by kernel_rfl
theorem yf140_2:tField Tryz.prog 140 2=some (2,114):=by kernel_rfl
theorem yf147_0:tField Tryz.prog 147 0=some (0,9):=by kernel_rfl
theorem yf148_0:tField Tryz.prog 148 0=some (0,9):=by kernel_rfl
theorem yf152_0:tField Tryz.prog 152 0=some (0,5):=by kernel_rfl
theorem yf152_1:tField Tryz.prog 152 1=some (1,5):=by kernel_rfl
theorem yf153_0:tField Tryz.prog 153 0=some (0,5):=by kernel_rfl
theorem yf153_1:tField Tryz.prog 153 1=some (1,5):=by kernel_rfl
theorem yf170_0:tField Tryz.prog 170 0=some (0,17):=by kernel_rfl
theorem yf170_1:tField Tryz.prog 170 1=some (1,17):=by kernel_rfl
theorem yf170_2:tField Tryz.prog 170 2=some (2,17):=by kernel_rfl
theorem yf170_3:tField Tryz.prog 170 3=some (3,9):=by kernel_rfl
theorem yf173_0:tField Tryz.prog 173 0=some (0,172):=by kernel_rfl
theorem yf180_0:tField Tryz.prog 180 0=some (0,12):=by kernel_rfl
theorem yf180_1:tField Tryz.prog 180 1=some (1,12):=by kernel_rfl
theorem yf180_2:tField Tryz.prog 180 2=some (2,164):=by kernel_rfl
theorem yf180_3:tField Tryz.prog 180 3=some (3,175):=by kernel_rfl
theorem yf180_4:tField Tryz.prog 180 4=some (4,5):=by kernel_rfl
theorem yf180_5:tField Tryz.prog 180 5=some (5,5):=by kernel_rfl
theorem yf180_6:tField Tryz.prog 180 6=some (6,176):=by kernel_rfl
theorem yf180_7:tField Tryz.prog 180 7=some (7,177):=by kernel_rfl
theorem yf180_8:tField Tryz.prog 180 8=some (8,145):=by kernel_rfl
theorem yf180_9:tField Tryz.prog 180 9=some (9,178):=by kernel_rfl
theorem yf180_10:tField Tryz.prog 180 10=some (10,179):=by kernel_rfl
end Go.Proofs.YtlaggppdgoknjaaGreatDoor
