/- Closed facts on the types of the program, for the second executor. No conditions. -/
import Derived.Test.YtbiepiggmagfcaaGreatDoorSyA
import Derived.Test.YtbiepiggmagfcaaGreatDoorRows
import Derived.KernelRfl
set_option linter.unusedVariables false
set_option linter.unusedSimpArgs false
namespace Go.Proofs.YtbiepiggmagfcaaGreatDoor
open Go Go.Sy
theorem ya2:tAgg Tryz.prog 2=some false:=by kernel_rfl
theorem ys2:tSize Tryz.prog 2=some 1:=by kernel_rfl
theorem yby2:tBytes Tryz.prog 2=some 8:=by kernel_rfl
theorem yz2:tZero Tryz.prog 2=some (.int .i64 0):=by kernel_rfl
theorem yi2:tInt Tryz.prog 2=some .i64:=by kernel_rfl
theorem ya3:tAgg Tryz.prog 3=some false:=by kernel_rfl
theorem ys3:tSize Tryz.prog 3=some 1:=by kernel_rfl
theorem yby3:tBytes Tryz.prog 3=some 8:=by kernel_rfl
theorem yz3:tZero Tryz.prog 3=some (.int .i64 0):=by kernel_rfl
theorem yi3:tInt Tryz.prog 3=some .i64:=by kernel_rfl
theorem ya4:tAgg Tryz.prog 4=some false:=by kernel_rfl
theorem ys4:tSize Tryz.prog 4=some 1:=by kernel_rfl
theorem yby4:tBytes Tryz.prog 4=some 1:=by kernel_rfl
theorem yz4:tZero Tryz.prog 4=some (.bool false):=by kernel_rfl
theorem yb4:Tryz.prog.underlying 4=some .bool:=by kernel_rfl
theorem ya5:tAgg Tryz.prog 5=some false:=by kernel_rfl
theorem ys5:tSize Tryz.prog 5=some 1:=by kernel_rfl
theorem yby5:tBytes Tryz.prog 5=some 1:=by kernel_rfl
theorem yz5:tZero Tryz.prog 5=some (.int .u8 0):=by kernel_rfl
theorem yi5:tInt Tryz.prog 5=some .u8:=by kernel_rfl
theorem yf7_0:tField Tryz.prog 7 0=some (0,2):=by kernel_rfl
theorem yf7_1:tField Tryz.prog 7 1=some (1,3):=by kernel_rfl
theorem yf7_2:tField Tryz.prog 7 2=some (2,4):=by kernel_rfl
theorem yf7_3:tField Tryz.prog 7 3=some (3,6):=by kernel_rfl
theorem ya9:tAgg Tryz.prog 9=some false:=by kernel_rfl
theorem ys9:tSize Tryz.prog 9=some 1:=by kernel_rfl
theorem yby9:tBytes Tryz.prog 9=some 16:=by kernel_rfl
theorem yz9:tZero Tryz.prog 9=some (.string ByteArray.empty):=by kernel_rfl
theorem yst9:tStr Tryz.prog 9=true:=by kernel_rfl
theorem yf13_0:tField Tryz.prog 13 0=some (0,9):=by kernel_rfl
theorem yf13_1:tField Tryz.prog 13 1=some (1,12):=by kernel_rfl
theorem yf18_0:tField Tryz.prog 18 0=some (0,17):=by kernel_rfl
theorem ya22:tAgg Tryz.prog 22=some false:=by kernel_rfl
theorem ys22:tSize Tryz.prog 22=some 1:=by kernel_rfl
theorem yby22:tBytes Tryz.prog 22=some 24:=by kernel_rfl
theorem yz22:tZero Tryz.prog 22=some (.slice none 0 0):=by kernel_rfl
theorem ye22:tElem Tryz.prog 22=some 5:=by kernel_rfl
theorem ya25:tAgg Tryz.prog 25=some false:=by kernel_rfl
theorem ys25:tSize Tryz.prog 25=some 1:=by kernel_rfl
theorem yby25:tBytes Tryz.prog 25=some 24:=by kernel_rfl
theorem yz25:tZero Tryz.prog 25=some (.slice none 0 0):=by kernel_rfl
theorem ye25:tElem Tryz.prog 25=some 113:=by kernel_rfl
theorem ya26:tAgg Tryz.prog 26=some false:=by kernel_rfl
theorem ys26:tSize Tryz.prog 26=some 1:=by kernel_rfl
theorem yby26:tBytes Tryz.prog 26=some 24:=by kernel_rfl
theorem yz26:tZero Tryz.prog 26=some (.slice none 0 0):=by kernel_rfl
theorem ye26:tElem Tryz.prog 26=some 143:=by kernel_rfl
theorem ya27:tAgg Tryz.prog 27=some true:=by kernel_rfl
theorem ys27:tSize Tryz.prog 27=some 4:=by kernel_rfl
theorem yby27:tBytes Tryz.prog 27=some 88:=by kernel_rfl
theorem yz27:tZero Tryz.prog 27=some (.agg #[.string ByteArray.empty,.slice none 0 0,.slice none 0 0,.slice none 0 0]):=by kernel_rfl
theorem yf27_0:tField Tryz.prog 27 0=some (0,9):=by kernel_rfl
theorem yf27_1:tField Tryz.prog 27 1=some (1,25):=by kernel_rfl
theorem yf27_2:tField Tryz.prog 27 2=some (2,25):=by kernel_rfl
theorem yf27_3:tField Tryz.prog 27 3=some (3,26):=by kernel_rfl
theorem yp27:tPlaces Tryz.prog 27=some [(0,1),(1,1),(2,1),(3,1)]:=by kernel_rfl
theorem ya28:tAgg Tryz.prog 28=some true:=by kernel_rfl
theorem ys28:tSize Tryz.prog 28=some 4:=by kernel_rfl
theorem yby28:tBytes Tryz.prog 28=some 88:=by kernel_rfl
theorem yz28:tZero Tryz.prog 28=some (.agg #[.string ByteArray.empty,.slice none 0 0,.slice none 0 0,.slice none 0 0]):=by kernel_rfl
theorem yf28_0:tField Tryz.prog 28 0=some (0,9):=by kernel_rfl
theorem yf28_1:tField Tryz.prog 28 1=some (1,25):=by kernel_rfl
theorem yf28_2:tField Tryz.prog 28 2=some (2,25):=by kernel_rfl
theorem yf28_3:tField Tryz.prog 28 3=some (3,26):=by kernel_rfl
theorem yp28:tPlaces Tryz.prog 28=some [(0,1),(1,1),(2,1),(3,1)]:=by kernel_rfl
theorem ya32:tAgg Tryz.prog 32=some false:=by kernel_rfl
theorem ys32:tSize Tryz.prog 32=some 1:=by kernel_rfl
theorem yby32:tBytes Tryz.prog 32=some 24:=by kernel_rfl
theorem yz32:tZero Tryz.prog 32=some (.slice none 0 0):=by kernel_rfl
theorem ye32:tElem Tryz.prog 32=some 9:=by kernel_rfl
theorem ya33:tAgg Tryz.prog 33=some false:=by kernel_rfl
theorem ys33:tSize Tryz.prog 33=some 1:=by kernel_rfl
theorem yby33:tBytes Tryz.prog 33=some 24:=by kernel_rfl
theorem yz33:tZero Tryz.prog 33=some (.slice none 0 0):=by kernel_rfl
theorem ye33:tElem Tryz.prog 33=some 97:=by kernel_rfl
theorem ya34:tAgg Tryz.prog 34=some true:=by kernel_rfl
theorem ys34:tSize Tryz.prog 34=some 2:=by kernel_rfl
theorem yby34:tBytes Tryz.prog 34=some 48:=by kernel_rfl
theorem yz34:tZero Tryz.prog 34=some (.agg #[.slice none 0 0,.slice none 0 0]):=by kernel_rfl
theorem yf34_0:tField Tryz.prog 34 0=some (0,32):=by kernel_rfl
theorem yf34_1:tField Tryz.prog 34 1=some (1,33):=by kernel_rfl
theorem yp34:tPlaces Tryz.prog 34=some [(0,1),(1,1)]:=by kernel_rfl
theorem ya35:tAgg Tryz.prog 35=some true:=by kernel_rfl
theorem ys35:tSize Tryz.prog 35=some 2:=by kernel_rfl
theorem yby35:tBytes Tryz.prog 35=some 48:=by kernel_rfl
theorem yz35:tZero Tryz.prog 35=some (.agg #[.slice none 0 0,.slice none 0 0]):=by kernel_rfl
theorem yf35_0:tField Tryz.prog 35 0=some (0,32):=by kernel_rfl
theorem yf35_1:tField Tryz.prog 35 1=some (1,33):=by kernel_rfl
theorem yp35:tPlaces Tryz.prog 35=some [(0,1),(1,1)]:=by kernel_rfl
theorem ya43:tAgg Tryz.prog 43=some false:=by kernel_rfl
theorem ys43:tSize Tryz.prog 43=some 1:=by kernel_rfl
theorem yby43:tBytes Tryz.prog 43=some 24:=by kernel_rfl
theorem yz43:tZero Tryz.prog 43=some (.slice none 0 0):=by kernel_rfl
theorem ye43:tElem Tryz.prog 43=some 46:=by kernel_rfl
theorem ya45:tAgg Tryz.prog 45=some true:=by kernel_rfl
theorem ys45:tSize Tryz.prog 45=some 2:=by kernel_rfl
theorem yby45:tBytes Tryz.prog 45=some 24:=by kernel_rfl
theorem yz45:tZero Tryz.prog 45=some (.agg #[.string ByteArray.empty,.int .i64 0]):=by kernel_rfl
theorem yf45_0:tField Tryz.prog 45 0=some (0,9):=by kernel_rfl
theorem yf45_1:tField Tryz.prog 45 1=some (1,3):=by kernel_rfl
theorem yp45:tPlaces Tryz.prog 45=some [(0,1),(1,1)]:=by kernel_rfl
theorem ya46:tAgg Tryz.prog 46=some true:=by kernel_rfl
theorem ys46:tSize Tryz.prog 46=some 2:=by kernel_rfl
theorem yby46:tBytes Tryz.prog 46=some 24:=by kernel_rfl
theorem yz46:tZero Tryz.prog 46=some (.agg #[.string ByteArray.empty,.int .i64 0]):=by kernel_rfl
theorem yf46_0:tField Tryz.prog 46 0=some (0,9):=by kernel_rfl
theorem yf46_1:tField Tryz.prog 46 1=some (1,3):=by kernel_rfl
theorem yp46:tPlaces Tryz.prog 46=some [(0,1),(1,1)]:=by kernel_rfl
theorem yq46:tEq Tryz.prog 46=some [(0,.s),(1,.i)]:=by kernel_rfl
theorem ya48:tAgg Tryz.prog 48=some false:=by kernel_rfl
theorem ys48:tSize Tryz.prog 48=some 1:=by kernel_rfl
theorem yby48:tBytes Tryz.prog 48=some 24:=by kernel_rfl
theorem yz48:tZero Tryz.prog 48=some (.slice none 0 0):=by kernel_rfl
theorem ye48:tElem Tryz.prog 48=some 64:=by kernel_rfl
theorem ya49:tAgg Tryz.prog 49=some false:=by kernel_rfl
theorem ys49:tSize Tryz.prog 49=some 1:=by kernel_rfl
theorem yby49:tBytes Tryz.prog 49=some 24:=by kernel_rfl
theorem yz49:tZero Tryz.prog 49=some (.slice none 0 0):=by kernel_rfl
theorem ye49:tElem Tryz.prog 49=some 66:=by kernel_rfl
theorem ya50:tAgg Tryz.prog 50=some false:=by kernel_rfl
theorem ys50:tSize Tryz.prog 50=some 1:=by kernel_rfl
theorem yby50:tBytes Tryz.prog 50=some 24:=by kernel_rfl
theorem yz50:tZero Tryz.prog 50=some (.slice none 0 0):=by kernel_rfl
theorem ye50:tElem Tryz.prog 50=some 57:=by kernel_rfl
theorem ya51:tAgg Tryz.prog 51=some true:=by kernel_rfl
theorem ys51:tSize Tryz.prog 51=some 3:=by kernel_rfl
theorem yby51:tBytes Tryz.prog 51=some 24:=by kernel_rfl
theorem yz51:tZero Tryz.prog 51=some (.agg #[.bool false,.int .i64 0,.int .i64 0]):=by kernel_rfl
theorem yf51_0:tField Tryz.prog 51 0=some (0,4):=by kernel_rfl
theorem yf51_1:tField Tryz.prog 51 1=some (1,2):=by kernel_rfl
theorem yf51_2:tField Tryz.prog 51 2=some (2,2):=by kernel_rfl
theorem yp51:tPlaces Tryz.prog 51=some [(0,1),(1,1),(2,1)]:=by kernel_rfl
theorem ya52:tAgg Tryz.prog 52=some true:=by kernel_rfl
theorem ys52:tSize Tryz.prog 52=some 3:=by kernel_rfl
theorem yby52:tBytes Tryz.prog 52=some 24:=by kernel_rfl
theorem yz52:tZero Tryz.prog 52=some (.agg #[.bool false,.int .i64 0,.int .i64 0]):=by kernel_rfl
theorem yf52_0:tField Tryz.prog 52 0=some (0,4):=by kernel_rfl
theorem yf52_1:tField Tryz.prog 52 1=some (1,2):=by kernel_rfl
theorem yf52_2:tField Tryz.prog 52 2=some (2,2):=by kernel_rfl
theorem yp52:tPlaces Tryz.prog 52=some [(0,1),(1,1),(2,1)]:=by kernel_rfl
theorem yq52:tEq Tryz.prog 52=some [(0,.b),(1,.i),(2,.i)]:=by kernel_rfl
theorem ya53:tAgg Tryz.prog 53=some false:=by kernel_rfl
theorem ys53:tSize Tryz.prog 53=some 1:=by kernel_rfl
theorem yby53:tBytes Tryz.prog 53=some 24:=by kernel_rfl
theorem yz53:tZero Tryz.prog 53=some (.slice none 0 0):=by kernel_rfl
theorem ye53:tElem Tryz.prog 53=some 221:=by kernel_rfl
theorem ya54:tAgg Tryz.prog 54=some true:=by kernel_rfl
theorem ys54:tSize Tryz.prog 54=some 6:=by kernel_rfl
theorem yby54:tBytes Tryz.prog 54=some 80:=by kernel_rfl
theorem yz54:tZero Tryz.prog 54=some (.agg #[.slice none 0 0,.bool false,.bool false,.int .i64 0,.int .i64 0,.slice none 0 0]):=by kernel_rfl
theorem yf54_0:tField Tryz.prog 54 0=some (0,48):=by kernel_rfl
theorem yf54_1:tField Tryz.prog 54 1=some (1,4):=by kernel_rfl
theorem yf54_2:tField Tryz.prog 54 2=some (2,52):=by kernel_rfl
theorem yf54_3:tField Tryz.prog 54 3=some (5,53):=by kernel_rfl
theorem yp54:tPlaces Tryz.prog 54=some [(0,1),(1,1),(2,3),(5,1)]:=by kernel_rfl
theorem ya55:tAgg Tryz.prog 55=some true:=by kernel_rfl
theorem ys55:tSize Tryz.prog 55=some 6:=by kernel_rfl
theorem yby55:tBytes Tryz.prog 55=some 80:=by kernel_rfl
theorem yz55:tZero Tryz.prog 55=some (.agg #[.slice none 0 0,.bool false,.bool false,.int .i64 0,.int .i64 0,.slice none 0 0]):=by kernel_rfl
theorem yf55_0:tField Tryz.prog 55 0=some (0,48):=by kernel_rfl
theorem yf55_1:tField Tryz.prog 55 1=some (1,4):=by kernel_rfl
theorem yf55_2:tField Tryz.prog 55 2=some (2,52):=by kernel_rfl
theorem yf55_3:tField Tryz.prog 55 3=some (5,53):=by kernel_rfl
theorem yp55:tPlaces Tryz.prog 55=some [(0,1),(1,1),(2,3),(5,1)]:=by kernel_rfl
theorem ya56:tAgg Tryz.prog 56=some true:=by kernel_rfl
theorem ys56:tSize Tryz.prog 56=some 7:=by kernel_rfl
theorem yby56:tBytes Tryz.prog 56=some 96:=by kernel_rfl
theorem yz56:tZero Tryz.prog 56=some (.agg #[.string ByteArray.empty,.slice none 0 0,.bool false,.bool false,.int .i64 0,.int .i64 0,.slice none 0 0]):=by kernel_rfl
theorem yf56_0:tField Tryz.prog 56 0=some (0,9):=by kernel_rfl
theorem yf56_1:tField Tryz.prog 56 1=some (1,55):=by kernel_rfl
theorem yp56:tPlaces Tryz.prog 56=some [(0,1),(1,6)]:=by kernel_rfl
theorem ya57:tAgg Tryz.prog 57=some true:=by kernel_rfl
theorem ys57:tSize Tryz.prog 57=some 7:=by kernel_rfl
theorem yby57:tBytes Tryz.prog 57=some 96:=by kernel_rfl
theorem yz57:tZero Tryz.prog 57=some (.agg #[.string ByteArray.empty,.slice none 0 0,.bool false,.bool false,.int .i64 0,.int .i64 0,.slice none 0 0]):=by kernel_rfl
theorem yf57_0:tField Tryz.prog 57 0=some (0,9):=by kernel_rfl
theorem yf57_1:tField Tryz.prog 57 1=some (1,55):=by kernel_rfl
theorem yp57:tPlaces Tryz.prog 57=some [(0,1),(1,6)]:=by kernel_rfl
theorem ya63:tAgg Tryz.prog 63=some true:=by kernel_rfl
theorem ys63:tSize Tryz.prog 63=some 2:=by kernel_rfl
theorem yby63:tBytes Tryz.prog 63=some 16:=by kernel_rfl
theorem yz63:tZero Tryz.prog 63=some (.agg #[.int .i64 0,.int .i64 0]):=by kernel_rfl
theorem yf63_0:tField Tryz.prog 63 0=some (0,3):=by kernel_rfl
theorem yf63_1:tField Tryz.prog 63 1=some (1,3):=by kernel_rfl
theorem yp63:tPlaces Tryz.prog 63=some [(0,1),(1,1)]:=by kernel_rfl
theorem ya64:tAgg Tryz.prog 64=some true:=by kernel_rfl
theorem ys64:tSize Tryz.prog 64=some 2:=by kernel_rfl
theorem yby64:tBytes Tryz.prog 64=some 16:=by kernel_rfl
theorem yz64:tZero Tryz.prog 64=some (.agg #[.int .i64 0,.int .i64 0]):=by kernel_rfl
theorem yf64_0:tField Tryz.prog 64 0=some (0,3):=by kernel_rfl
theorem yf64_1:tField Tryz.prog 64 1=some (1,3):=by kernel_rfl
theorem yp64:tPlaces Tryz.prog 64=some [(0,1),(1,1)]:=by kernel_rfl
theorem yq64:tEq Tryz.prog 64=some [(0,.i),(1,.i)]:=by kernel_rfl
theorem ya65:tAgg Tryz.prog 65=some true:=by kernel_rfl
theorem ys65:tSize Tryz.prog 65=some 3:=by kernel_rfl
theorem yby65:tBytes Tryz.prog 65=some 32:=by kernel_rfl
theorem yz65:tZero Tryz.prog 65=some (.agg #[.int .i64 0,.int .i64 0,.string ByteArray.empty]):=by kernel_rfl
theorem yf65_0:tField Tryz.prog 65 0=some (0,3):=by kernel_rfl
theorem yf65_1:tField Tryz.prog 65 1=some (1,3):=by kernel_rfl
theorem yf65_2:tField Tryz.prog 65 2=some (2,9):=by kernel_rfl
theorem yp65:tPlaces Tryz.prog 65=some [(0,1),(1,1),(2,1)]:=by kernel_rfl
theorem ya66:tAgg Tryz.prog 66=some true:=by kernel_rfl
theorem ys66:tSize Tryz.prog 66=some 3:=by kernel_rfl
theorem yby66:tBytes Tryz.prog 66=some 32:=by kernel_rfl
theorem yz66:tZero Tryz.prog 66=some (.agg #[.int .i64 0,.int .i64 0,.string ByteArray.empty]):=by kernel_rfl
theorem yf66_0:tField Tryz.prog 66 0=some (0,3):=by kernel_rfl
theorem yf66_1:tField Tryz.prog 66 1=some (1,3):=by kernel_rfl
theorem yf66_2:tField Tryz.prog 66 2=some (2,9):=by kernel_rfl
theorem yp66:tPlaces Tryz.prog 66=some [(0,1),(1,1),(2,1)]:=by kernel_rfl
theorem yq66:tEq Tryz.prog 66=some [(0,.i),(1,.i),(2,.s)]:=by kernel_rfl
theorem ya68:tAgg Tryz.prog 68=some false:=by kernel_rfl
theorem ys68:tSize Tryz.prog 68=some 1:=by kernel_rfl
theorem yby68:tBytes Tryz.prog 68=some 8:=by kernel_rfl
theorem yz68:tZero Tryz.prog 68=some (.pointer none):=by kernel_rfl
theorem ypt68:tPtr Tryz.prog 68=some 70:=by kernel_rfl
theorem ya69:tAgg Tryz.prog 69=some true:=by kernel_rfl
theorem ys69:tSize Tryz.prog 69=some 5:=by kernel_rfl
theorem yby69:tBytes Tryz.prog 69=some 48:=by kernel_rfl
theorem yz69:tZero Tryz.prog 69=some (.agg #[.int .i64 0,.int .i64 0,.string ByteArray.empty,.pointer none,.pointer none]):=by kernel_rfl
theorem yf69_0:tField Tryz.prog 69 0=some (0,3):=by kernel_rfl
theorem yf69_1:tField Tryz.prog 69 1=some (1,2):=by kernel_rfl
theorem yf69_2:tField Tryz.prog 69 2=some (2,9):=by kernel_rfl
theorem yf69_3:tField Tryz.prog 69 3=some (3,68):=by kernel_rfl
theorem yf69_4:tField Tryz.prog 69 4=some (4,68):=by kernel_rfl
theorem yp69:tPlaces Tryz.prog 69=some [(0,1),(1,1),(2,1),(3,1),(4,1)]:=by kernel_rfl
theorem ya70:tAgg Tryz.prog 70=some true:=by kernel_rfl
theorem ys70:tSize Tryz.prog 70=some 5:=by kernel_rfl
theorem yby70:tBytes Tryz.prog 70=some 48:=by kernel_rfl
theorem yz70:tZero Tryz.prog 70=some (.agg #[.int .i64 0,.int .i64 0,.string ByteArray.empty,.pointer none,.pointer none]):=by kernel_rfl
theorem yf70_0:tField Tryz.prog 70 0=some (0,3):=by kernel_rfl
theorem yf70_1:tField Tryz.prog 70 1=some (1,2):=by kernel_rfl
theorem yf70_2:tField Tryz.prog 70 2=some (2,9):=by kernel_rfl
theorem yf70_3:tField Tryz.prog 70 3=some (3,68):=by kernel_rfl
theorem yf70_4:tField Tryz.prog 70 4=some (4,68):=by kernel_rfl
theorem yp70:tPlaces Tryz.prog 70=some [(0,1),(1,1),(2,1),(3,1),(4,1)]:=by kernel_rfl
theorem ya73:tAgg Tryz.prog 73=some false:=by kernel_rfl
theorem ys73:tSize Tryz.prog 73=some 1:=by kernel_rfl
theorem yby73:tBytes Tryz.prog 73=some 8:=by kernel_rfl
theorem yz73:tZero Tryz.prog 73=some (.pointer none):=by kernel_rfl
theorem ypt73:tPtr Tryz.prog 73=some 75:=by kernel_rfl
theorem ya74:tAgg Tryz.prog 74=some true:=by kernel_rfl
theorem ys74:tSize Tryz.prog 74=some 6:=by kernel_rfl
theorem yby74:tBytes Tryz.prog 74=some 56:=by kernel_rfl
theorem yz74:tZero Tryz.prog 74=some (.agg #[.int .i64 0,.pointer none,.pointer none,.pointer none,.pointer none,.string ByteArray.empty]):=by kernel_rfl
theorem yf74_0:tField Tryz.prog 74 0=some (0,3):=by kernel_rfl
theorem yf74_1:tField Tryz.prog 74 1=some (1,68):=by kernel_rfl
theorem yf74_2:tField Tryz.prog 74 2=some (2,68):=by kernel_rfl
theorem yf74_3:tField Tryz.prog 74 3=some (3,73):=by kernel_rfl
theorem yf74_4:tField Tryz.prog 74 4=some (4,73):=by kernel_rfl
theorem yf74_5:tField Tryz.prog 74 5=some (5,9):=by kernel_rfl
theorem yp74:tPlaces Tryz.prog 74=some [(0,1),(1,1),(2,1),(3,1),(4,1),(5,1)]:=by kernel_rfl
theorem ya75:tAgg Tryz.prog 75=some true:=by kernel_rfl
theorem ys75:tSize Tryz.prog 75=some 6:=by kernel_rfl
theorem yby75:tBytes Tryz.prog 75=some 56:=by kernel_rfl
theorem yz75:tZero Tryz.prog 75=some (.agg #[.int .i64 0,.pointer none,.pointer none,.pointer none,.pointer none,.string ByteArray.empty]):=by kernel_rfl
theorem yf75_0:tField Tryz.prog 75 0=some (0,3):=by kernel_rfl
theorem yf75_1:tField Tryz.prog 75 1=some (1,68):=by kernel_rfl
theorem yf75_2:tField Tryz.prog 75 2=some (2,68):=by kernel_rfl
theorem yf75_3:tField Tryz.prog 75 3=some (3,73):=by kernel_rfl
theorem yf75_4:tField Tryz.prog 75 4=some (4,73):=by kernel_rfl
theorem yf75_5:tField Tryz.prog 75 5=some (5,9):=by kernel_rfl
theorem yp75:tPlaces Tryz.prog 75=some [(0,1),(1,1),(2,1),(3,1),(4,1),(5,1)]:=by kernel_rfl
theorem ya76:tAgg Tryz.prog 76=some false:=by kernel_rfl
theorem ys76:tSize Tryz.prog 76=some 1:=by kernel_rfl
theorem yby76:tBytes Tryz.prog 76=some 24:=by kernel_rfl
theorem yz76:tZero Tryz.prog 76=some (.slice none 0 0):=by kernel_rfl
theorem ye76:tElem Tryz.prog 76=some 94:=by kernel_rfl
theorem ya79:tAgg Tryz.prog 79=some false:=by kernel_rfl
theorem ys79:tSize Tryz.prog 79=some 1:=by kernel_rfl
theorem yby79:tBytes Tryz.prog 79=some 8:=by kernel_rfl
theorem yz79:tZero Tryz.prog 79=some (.pointer none):=by kernel_rfl
theorem ypt79:tPtr Tryz.prog 79=some 81:=by kernel_rfl
theorem ya80:tAgg Tryz.prog 80=some true:=by kernel_rfl
theorem ys80:tSize Tryz.prog 80=some 7:=by kernel_rfl
theorem yby80:tBytes Tryz.prog 80=some 72:=by kernel_rfl
theorem yz80:tZero Tryz.prog 80=some (.agg #[.slice none 0 0,.int .i64 0,.int .i64 0,.int .i64 0,.int .i64 0,.int .i64 0,.int .i64 0]):=by kernel_rfl
theorem yf80_0:tField Tryz.prog 80 0=some (0,76):=by kernel_rfl
theorem yf80_1:tField Tryz.prog 80 1=some (1,3):=by kernel_rfl
theorem yf80_2:tField Tryz.prog 80 2=some (2,3):=by kernel_rfl
theorem yf80_3:tField Tryz.prog 80 3=some (3,3):=by kernel_rfl
theorem yf80_4:tField Tryz.prog 80 4=some (4,3):=by kernel_rfl
theorem yf80_5:tField Tryz.prog 80 5=some (5,3):=by kernel_rfl
theorem yf80_6:tField Tryz.prog 80 6=some (6,3):=by kernel_rfl
theorem yp80:tPlaces Tryz.prog 80=some [(0,1),(1,1),(2,1),(3,1),(4,1),(5,1),(6,1)]:=by kernel_rfl
theorem ya81:tAgg Tryz.prog 81=some true:=by kernel_rfl
theorem ys81:tSize Tryz.prog 81=some 7:=by kernel_rfl
theorem yby81:tBytes Tryz.prog 81=some 72:=by kernel_rfl
theorem yz81:tZero Tryz.prog 81=some (.agg #[.slice none 0 0,.int .i64 0,.int .i64 0,.int .i64 0,.int .i64 0,.int .i64 0,.int .i64 0]):=by kernel_rfl
theorem yf81_0:tField Tryz.prog 81 0=some (0,76):=by kernel_rfl
theorem yf81_1:tField Tryz.prog 81 1=some (1,3):=by kernel_rfl
theorem yf81_2:tField Tryz.prog 81 2=some (2,3):=by kernel_rfl
theorem yf81_3:tField Tryz.prog 81 3=some (3,3):=by kernel_rfl
theorem yf81_4:tField Tryz.prog 81 4=some (4,3):=by kernel_rfl
theorem yf81_5:tField Tryz.prog 81 5=some (5,3):=by kernel_rfl
theorem yf81_6:tField Tryz.prog 81 6=some (6,3):=by kernel_rfl
theorem yp81:tPlaces Tryz.prog 81=some [(0,1),(1,1),(2,1),(3,1),(4,1),(5,1),(6,1)]:=by kernel_rfl
theorem ya88:tAgg Tryz.prog 88=some false:=by kernel_rfl
theorem ys88:tSize Tryz.prog 88=some 1:=by kernel_rfl
theorem yby88:tBytes Tryz.prog 88=some 8:=by kernel_rfl
theorem yz88:tZero Tryz.prog 88=some (.pointer none):=by kernel_rfl
theorem ypt88:tPtr Tryz.prog 88=some 90:=by kernel_rfl
theorem ya89:tAgg Tryz.prog 89=some true:=by kernel_rfl
theorem ys89:tSize Tryz.prog 89=some 3:=by kernel_rfl
theorem yby89:tBytes Tryz.prog 89=some 40:=by kernel_rfl
theorem yz89:tZero Tryz.prog 89=some (.agg #[.slice none 0 0,.int .i64 0,.int .i64 0]):=by kernel_rfl
theorem yf89_0:tField Tryz.prog 89 0=some (0,22):=by kernel_rfl
theorem yf89_1:tField Tryz.prog 89 1=some (1,3):=by kernel_rfl
theorem yf89_2:tField Tryz.prog 89 2=some (2,3):=by kernel_rfl
theorem yp89:tPlaces Tryz.prog 89=some [(0,1),(1,1),(2,1)]:=by kernel_rfl
theorem ya90:tAgg Tryz.prog 90=some true:=by kernel_rfl
theorem ys90:tSize Tryz.prog 90=some 3:=by kernel_rfl
theorem yby90:tBytes Tryz.prog 90=some 40:=by kernel_rfl
theorem yz90:tZero Tryz.prog 90=some (.agg #[.slice none 0 0,.int .i64 0,.int .i64 0]):=by kernel_rfl
theorem yf90_0:tField Tryz.prog 90 0=some (0,22):=by kernel_rfl
theorem yf90_1:tField Tryz.prog 90 1=some (1,3):=by kernel_rfl
theorem yf90_2:tField Tryz.prog 90 2=some (2,3):=by kernel_rfl
theorem yp90:tPlaces Tryz.prog 90=some [(0,1),(1,1),(2,1)]:=by kernel_rfl
theorem ya93:tAgg Tryz.prog 93=some true:=by kernel_rfl
theorem ys93:tSize Tryz.prog 93=some 3:=by kernel_rfl
theorem yby93:tBytes Tryz.prog 93=some 32:=by kernel_rfl
theorem yz93:tZero Tryz.prog 93=some (.agg #[.int .i64 0,.string ByteArray.empty,.int .i64 0]):=by kernel_rfl
theorem yf93_0:tField Tryz.prog 93 0=some (0,3):=by kernel_rfl
theorem yf93_1:tField Tryz.prog 93 1=some (1,9):=by kernel_rfl
theorem yf93_2:tField Tryz.prog 93 2=some (2,3):=by kernel_rfl
theorem yp93:tPlaces Tryz.prog 93=some [(0,1),(1,1),(2,1)]:=by kernel_rfl
theorem ya94:tAgg Tryz.prog 94=some true:=by kernel_rfl
theorem ys94:tSize Tryz.prog 94=some 3:=by kernel_rfl
theorem yby94:tBytes Tryz.prog 94=some 32:=by kernel_rfl
theorem yz94:tZero Tryz.prog 94=some (.agg #[.int .i64 0,.string ByteArray.empty,.int .i64 0]):=by kernel_rfl
theorem yf94_0:tField Tryz.prog 94 0=some (0,3):=by kernel_rfl
theorem yf94_1:tField Tryz.prog 94 1=some (1,9):=by kernel_rfl
theorem yf94_2:tField Tryz.prog 94 2=some (2,3):=by kernel_rfl
theorem yp94:tPlaces Tryz.prog 94=some [(0,1),(1,1),(2,1)]:=by kernel_rfl
theorem yq94:tEq Tryz.prog 94=some [(0,.i),(1,.s),(2,.i)]:=by kernel_rfl
theorem ya96:tAgg Tryz.prog 96=some true:=by kernel_rfl
theorem ys96:tSize Tryz.prog 96=some 2:=by kernel_rfl
theorem yby96:tBytes Tryz.prog 96=some 24:=by kernel_rfl
theorem yz96:tZero Tryz.prog 96=some (.agg #[.string ByteArray.empty,.int .i64 0]):=by kernel_rfl
theorem yf96_0:tField Tryz.prog 96 0=some (0,9):=by kernel_rfl
theorem yf96_1:tField Tryz.prog 96 1=some (1,3):=by kernel_rfl
theorem yp96:tPlaces Tryz.prog 96=some [(0,1),(1,1)]:=by kernel_rfl
theorem ya97:tAgg Tryz.prog 97=some true:=by kernel_rfl
theorem ys97:tSize Tryz.prog 97=some 2:=by kernel_rfl
theorem yby97:tBytes Tryz.prog 97=some 24:=by kernel_rfl
theorem yz97:tZero Tryz.prog 97=some (.agg #[.string ByteArray.empty,.int .i64 0]):=by kernel_rfl
theorem yf97_0:tField Tryz.prog 97 0=some (0,9):=by kernel_rfl
theorem yf97_1:tField Tryz.prog 97 1=some (1,3):=by kernel_rfl
theorem yp97:tPlaces Tryz.prog 97=some [(0,1),(1,1)]:=by kernel_rfl
theorem yq97:tEq Tryz.prog 97=some [(0,.s),(1,.i)]:=by kernel_rfl
theorem ya98:tAgg Tryz.prog 98=some false:=by kernel_rfl
theorem ys98:tSize Tryz.prog 98=some 1:=by kernel_rfl
theorem yby98:tBytes Tryz.prog 98=some 24:=by kernel_rfl
theorem yz98:tZero Tryz.prog 98=some (.slice none 0 0):=by kernel_rfl
theorem ye98:tElem Tryz.prog 98=some 28:=by kernel_rfl
theorem ya99:tAgg Tryz.prog 99=some true:=by kernel_rfl
theorem ys99:tSize Tryz.prog 99=some 3:=by kernel_rfl
theorem yby99:tBytes Tryz.prog 99=some 72:=by kernel_rfl
theorem yz99:tZero Tryz.prog 99=some (.agg #[.slice none 0 0,.slice none 0 0,.slice none 0 0]):=by kernel_rfl
theorem yf99_0:tField Tryz.prog 99 0=some (0,35):=by kernel_rfl
theorem yf99_1:tField Tryz.prog 99 1=some (2,98):=by kernel_rfl
theorem yp99:tPlaces Tryz.prog 99=some [(0,2),(2,1)]:=by kernel_rfl
theorem ya100:tAgg Tryz.prog 100=some true:=by kernel_rfl
theorem ys100:tSize Tryz.prog 100=some 3:=by kernel_rfl
theorem yby100:tBytes Tryz.prog 100=some 72:=by kernel_rfl
theorem yz100:tZero Tryz.prog 100=some (.agg #[.slice none 0 0,.slice none 0 0,.slice none 0 0]):=by kernel_rfl
theorem yf100_0:tField Tryz.prog 100 0=some (0,35):=by kernel_rfl
theorem yf100_1:tField Tryz.prog 100 1=some (2,98):=by kernel_rfl
theorem yp100:tPlaces Tryz.prog 100=some [(0,2),(2,1)]:=by kernel_rfl
theorem ya102:tAgg Tryz.prog 102=some true:=by kernel_rfl
theorem ys102:tSize Tryz.prog 102=some 2:=by kernel_rfl
theorem yby102:tBytes Tryz.prog 102=some 32:=by kernel_rfl
theorem yz102:tZero Tryz.prog 102=some (.agg #[.string ByteArray.empty,.string ByteArray.empty]):=by kernel_rfl
theorem yf102_0:tField Tryz.prog 102 0=some (0,9):=by kernel_rfl
theorem yf102_1:tField Tryz.prog 102 1=some (1,9):=by kernel_rfl
theorem yp102:tPlaces Tryz.prog 102=some [(0,1),(1,1)]:=by kernel_rfl
theorem ya103:tAgg Tryz.prog 103=some true:=by kernel_rfl
theorem ys103:tSize Tryz.prog 103=some 2:=by kernel_rfl
theorem yby103:tBytes Tryz.prog 103=some 32:=by kernel_rfl
theorem yz103:tZero Tryz.prog 103=some (.agg #[.string ByteArray.empty,.string ByteArray.empty]):=by kernel_rfl
theorem yf103_0:tField Tryz.prog 103 0=some (0,9):=by kernel_rfl
theorem yf103_1:tField Tryz.prog 103 1=some (1,9):=by kernel_rfl
theorem yp103:tPlaces Tryz.prog 103=some [(0,1),(1,1)]:=by kernel_rfl
theorem yq103:tEq Tryz.prog 103=some [(0,.s),(1,.s)]:=by kernel_rfl
theorem ya104:tAgg Tryz.prog 104=some false:=by kernel_rfl
theorem ys104:tSize Tryz.prog 104=some 1:=by kernel_rfl
theorem yby104:tBytes Tryz.prog 104=some 24:=by kernel_rfl
theorem yz104:tZero Tryz.prog 104=some (.slice none 0 0):=by kernel_rfl
theorem ye104:tElem Tryz.prog 104=some 103:=by kernel_rfl
theorem ya105:tAgg Tryz.prog 105=some false:=by kernel_rfl
theorem ys105:tSize Tryz.prog 105=some 1:=by kernel_rfl
theorem yby105:tBytes Tryz.prog 105=some 8:=by kernel_rfl
theorem yz105:tZero Tryz.prog 105=some (.pointer none):=by kernel_rfl
theorem ypt105:tPtr Tryz.prog 105=some 107:=by kernel_rfl
theorem ya106:tAgg Tryz.prog 106=some true:=by kernel_rfl
theorem ys106:tSize Tryz.prog 106=some 2:=by kernel_rfl
theorem yby106:tBytes Tryz.prog 106=some 32:=by kernel_rfl
theorem yz106:tZero Tryz.prog 106=some (.agg #[.pointer none,.slice none 0 0]):=by kernel_rfl
theorem yf106_0:tField Tryz.prog 106 0=some (0,105):=by kernel_rfl
theorem yf106_1:tField Tryz.prog 106 1=some (1,22):=by kernel_rfl
theorem yp106:tPlaces Tryz.prog 106=some [(0,1),(1,1)]:=by kernel_rfl
theorem ya107:tAgg Tryz.prog 107=some true:=by kernel_rfl
theorem ys107:tSize Tryz.prog 107=some 2:=by kernel_rfl
theorem yby107:tBytes Tryz.prog 107=some 32:=by kernel_rfl
theorem yz107:tZero Tryz.prog 107=some (.agg #[.pointer none,.slice none 0 0]):=by kernel_rfl
theorem yf107_0:tField Tryz.prog 107 0=some (0,105):=by kernel_rfl
theorem yf107_1:tField Tryz.prog 107 1=some (1,22):=by kernel_rfl
theorem yp107:tPlaces Tryz.prog 107=some [(0,1),(1,1)]:=by kernel_rfl
theorem ya108:tAgg Tryz.prog 108=some true:=by kernel_rfl
theorem ys108:tSize Tryz.prog 108=some 3:=by kernel_rfl
theorem yby108:tBytes Tryz.prog 108=some 40:=by kernel_rfl
theorem yz108:tZero Tryz.prog 108=some (.agg #[.pointer none,.slice none 0 0,.int .i64 0]):=by kernel_rfl
theorem yf108_0:tField Tryz.prog 108 0=some (0,107):=by kernel_rfl
theorem yf108_1:tField Tryz.prog 108 1=some (2,3):=by kernel_rfl
theorem yp108:tPlaces Tryz.prog 108=some [(0,2),(2,1)]:=by kernel_rfl
theorem ya109:tAgg Tryz.prog 109=some true:=by kernel_rfl
theorem ys109:tSize Tryz.prog 109=some 3:=by kernel_rfl
theorem yby109:tBytes Tryz.prog 109=some 40:=by kernel_rfl
theorem yz109:tZero Tryz.prog 109=some (.agg #[.pointer none,.slice none 0 0,.int .i64 0]):=by kernel_rfl
theorem yf109_0:tField Tryz.prog 109 0=some (0,107):=by kernel_rfl
theorem yf109_1:tField Tryz.prog 109 1=some (2,3):=by kernel_rfl
theorem yp109:tPlaces Tryz.prog 109=some [(0,2),(2,1)]:=by kernel_rfl
theorem ya110:tAgg Tryz.prog 110=some true:=by kernel_rfl
theorem ys110:tSize Tryz.prog 110=some 3:=by kernel_rfl
theorem yby110:tBytes Tryz.prog 110=some 40:=by kernel_rfl
theorem yz110:tZero Tryz.prog 110=some (.agg #[.pointer none,.slice none 0 0,.int .i64 0]):=by kernel_rfl
theorem yf110_0:tField Tryz.prog 110 0=some (0,109):=by kernel_rfl
theorem yp110:tPlaces Tryz.prog 110=some [(0,3)]:=by kernel_rfl
theorem ya111:tAgg Tryz.prog 111=some true:=by kernel_rfl
theorem ys111:tSize Tryz.prog 111=some 3:=by kernel_rfl
theorem yby111:tBytes Tryz.prog 111=some 40:=by kernel_rfl
theorem yz111:tZero Tryz.prog 111=some (.agg #[.pointer none,.slice none 0 0,.int .i64 0]):=by kernel_rfl
theorem yf111_0:tField Tryz.prog 111 0=some (0,109):=by kernel_rfl
theorem yp111:tPlaces Tryz.prog 111=some [(0,3)]:=by kernel_rfl
theorem ya112:tAgg Tryz.prog 112=some true:=by kernel_rfl
theorem ys112:tSize Tryz.prog 112=some 2:=by kernel_rfl
theorem yby112:tBytes Tryz.prog 112=some 24:=by kernel_rfl
theorem yz112:tZero Tryz.prog 112=some (.agg #[.string ByteArray.empty,.bool false]):=by kernel_rfl
theorem yf112_0:tField Tryz.prog 112 0=some (0,9):=by kernel_rfl
theorem yf112_1:tField Tryz.prog 112 1=some (1,4):=by kernel_rfl
theorem yp112:tPlaces Tryz.prog 112=some [(0,1),(1,1)]:=by kernel_rfl
theorem ya113:tAgg Tryz.prog 113=some true:=by kernel_rfl
theorem ys113:tSize Tryz.prog 113=some 2:=by kernel_rfl
theorem yby113:tBytes Tryz.prog 113=some 24:=by kernel_rfl
theorem yz113:tZero Tryz.prog 113=some (.agg #[.string ByteArray.empty,.bool false]):=by kernel_rfl
theorem yf113_0:tField Tryz.prog 113 0=some (0,9):=by kernel_rfl
theorem yf113_1:tField Tryz.prog 113 1=some (1,4):=by kernel_rfl
theorem yp113:tPlaces Tryz.prog 113=some [(0,1),(1,1)]:=by kernel_rfl
theorem yq113:tEq Tryz.prog 113=some [(0,.s),(1,.b)]:=by kernel_rfl
theorem ya119:tAgg Tryz.prog 119=some false:=by kernel_rfl
theorem ys119:tSize Tryz.prog 119=some 1:=by kernel_rfl
theorem yby119:tBytes Tryz.prog 119=some 8:=by kernel_rfl
theorem yz119:tZero Tryz.prog 119=some (.pointer none):=by kernel_rfl
theorem ypt119:tPtr Tryz.prog 119=some 124:=by kernel_rfl
theorem ya121:tAgg Tryz.prog 121=some true:=by kernel_rfl
theorem ys121:tSize Tryz.prog 121=some 1:=by kernel_rfl
theorem yby121:tBytes Tryz.prog 121=some 24:=by kernel_rfl
theorem yz121:tZero Tryz.prog 121=some (.agg #[.slice none 0 0]):=by kernel_rfl
theorem yf121_0:tField Tryz.prog 121 0=some (0,32):=by kernel_rfl
theorem yp121:tPlaces Tryz.prog 121=some [(0,1)]:=by kernel_rfl
theorem ya122:tAgg Tryz.prog 122=some true:=by kernel_rfl
theorem ys122:tSize Tryz.prog 122=some 1:=by kernel_rfl
theorem yby122:tBytes Tryz.prog 122=some 24:=by kernel_rfl
theorem yz122:tZero Tryz.prog 122=some (.agg #[.slice none 0 0]):=by kernel_rfl
theorem yf122_0:tField Tryz.prog 122 0=some (0,32):=by kernel_rfl
theorem yp122:tPlaces Tryz.prog 122=some [(0,1)]:=by kernel_rfl
theorem ya123:tAgg Tryz.prog 123=some true:=by kernel_rfl
theorem ys123:tSize Tryz.prog 123=some 3:=by kernel_rfl
theorem yby123:tBytes Tryz.prog 123=some 72:=by kernel_rfl
theorem yz123:tZero Tryz.prog 123=some (.agg #[.slice none 0 0,.slice none 0 0,.slice none 0 0]):=by kernel_rfl
theorem yf123_0:tField Tryz.prog 123 0=some (0,122):=by kernel_rfl
theorem yf123_1:tField Tryz.prog 123 1=some (1,48):=by kernel_rfl
theorem yf123_2:tField Tryz.prog 123 2=some (2,49):=by kernel_rfl
theorem yp123:tPlaces Tryz.prog 123=some [(0,1),(1,1),(2,1)]:=by kernel_rfl
theorem ya124:tAgg Tryz.prog 124=some true:=by kernel_rfl
theorem ys124:tSize Tryz.prog 124=some 3:=by kernel_rfl
theorem yby124:tBytes Tryz.prog 124=some 72:=by kernel_rfl
theorem yz124:tZero Tryz.prog 124=some (.agg #[.slice none 0 0,.slice none 0 0,.slice none 0 0]):=by kernel_rfl
theorem yf124_0:tField Tryz.prog 124 0=some (0,122):=by kernel_rfl
theorem yf124_1:tField Tryz.prog 124 1=some (1,48):=by kernel_rfl
theorem yf124_2:tField Tryz.prog 124 2=some (2,49):=by kernel_rfl
theorem yp124:tPlaces Tryz.prog 124=some [(0,1),(1,1),(2,1)]:=by kernel_rfl
theorem ya139:tAgg Tryz.prog 139=some false:=by kernel_rfl
theorem ys139:tSize Tryz.prog 139=some 1:=by kernel_rfl
theorem yby139:tBytes Tryz.prog 139=some 8:=by kernel_rfl
theorem yz139:tZero Tryz.prog 139=some (.int .u64 0):=by kernel_rfl
theorem yi139:tInt Tryz.prog 139=some .u64:=by kernel_rfl
theorem ya141:tAgg Tryz.prog 141=some false:=by kernel_rfl
theorem ys141:tSize Tryz.prog 141=some 1:=by kernel_rfl
theorem yby141:tBytes Tryz.prog 141=some 24:=by kernel_rfl
theorem yz141:tZero Tryz.prog 141=some (.slice none 0 0):=by kernel_rfl
theorem ye141:tElem Tryz.prog 141=some 168:=by kernel_rfl
theorem ya142:tAgg Tryz.prog 142=some true:=by kernel_rfl
theorem ys142:tSize Tryz.prog 142=some 10:=by kernel_rfl
theorem yby142:tBytes Tryz.prog 142=some 144:=by kernel_rfl
theorem yz142:tZero Tryz.prog 142=some (.agg #[.int .i64 0,.string ByteArray.empty,.string ByteArray.empty,.pointer none,.pointer none,.pointer none,.slice none 0 0,.slice none 0 0,.slice none 0 0,.int .i64 0]):=by kernel_rfl
theorem yf142_0:tField Tryz.prog 142 0=some (0,3):=by kernel_rfl
theorem yf142_1:tField Tryz.prog 142 1=some (1,9):=by kernel_rfl
theorem yf142_2:tField Tryz.prog 142 2=some (2,9):=by kernel_rfl
theorem yf142_3:tField Tryz.prog 142 3=some (3,68):=by kernel_rfl
theorem yf142_4:tField Tryz.prog 142 4=some (4,68):=by kernel_rfl
theorem yf142_5:tField Tryz.prog 142 5=some (5,73):=by kernel_rfl
theorem yf142_6:tField Tryz.prog 142 6=some (6,141):=by kernel_rfl
theorem yf142_7:tField Tryz.prog 142 7=some (7,26):=by kernel_rfl
theorem yf142_8:tField Tryz.prog 142 8=some (8,26):=by kernel_rfl
theorem yf142_9:tField Tryz.prog 142 9=some (9,3):=by kernel_rfl
theorem yp142:tPlaces Tryz.prog 142=some [(0,1),(1,1),(2,1),(3,1),(4,1),(5,1),(6,1),(7,1),(8,1),(9,1)]:=by kernel_rfl
theorem ya143:tAgg Tryz.prog 143=some true:=by kernel_rfl
theorem ys143:tSize Tryz.prog 143=some 10:=by kernel_rfl
theorem yby143:tBytes Tryz.prog 143=some 144:=by kernel_rfl
theorem yz143:tZero Tryz.prog 143=some (.agg #[.int .i64 0,.string ByteArray.empty,.string ByteArray.empty,.pointer none,.pointer none,.pointer none,.slice none 0 0,.slice none 0 0,.slice none 0 0,.int .i64 0]):=by kernel_rfl
theorem yf143_0:tField Tryz.prog 143 0=some (0,3):=by kernel_rfl
theorem yf143_1:tField Tryz.prog 143 1=some (1,9):=by kernel_rfl
theorem yf143_2:tField Tryz.prog 143 2=some (2,9):=by kernel_rfl
theorem yf143_3:tField Tryz.prog 143 3=some (3,68):=by kernel_rfl
theorem yf143_4:tField Tryz.prog 143 4=some (4,68):=by kernel_rfl
theorem yf143_5:tField Tryz.prog 143 5=some (5,73):=by kernel_rfl
theorem yf143_6:tField Tryz.prog 143 6=some (6,141):=by kernel_rfl
theorem yf143_7:tField Tryz.prog 143 7=some (7,26):=by kernel_rfl
theorem yf143_8:tField Tryz.prog 143 8=some (8,26):=by kernel_rfl
theorem yf143_9:tField Tryz.prog 143 9=some (9,3):=by kernel_rfl
theorem yp143:tPlaces Tryz.prog 143=some [(0,1),(1,1),(2,1),(3,1),(4,1),(5,1),(6,1),(7,1),(8,1),(9,1)]:=by kernel_rfl
theorem ya167:tAgg Tryz.prog 167=some true:=by kernel_rfl
theorem ys167:tSize Tryz.prog 167=some 3:=by kernel_rfl
theorem yby167:tBytes Tryz.prog 167=some 32:=by kernel_rfl
theorem yz167:tZero Tryz.prog 167=some (.agg #[.bool false,.string ByteArray.empty,.pointer none]):=by kernel_rfl
theorem yf167_0:tField Tryz.prog 167 0=some (0,4):=by kernel_rfl
theorem yf167_1:tField Tryz.prog 167 1=some (1,9):=by kernel_rfl
theorem yf167_2:tField Tryz.prog 167 2=some (2,68):=by kernel_rfl
theorem yp167:tPlaces Tryz.prog 167=some [(0,1),(1,1),(2,1)]:=by kernel_rfl
theorem ya168:tAgg Tryz.prog 168=some true:=by kernel_rfl
theorem ys168:tSize Tryz.prog 168=some 3:=by kernel_rfl
theorem yby168:tBytes Tryz.prog 168=some 32:=by kernel_rfl
theorem yz168:tZero Tryz.prog 168=some (.agg #[.bool false,.string ByteArray.empty,.pointer none]):=by kernel_rfl
theorem yf168_0:tField Tryz.prog 168 0=some (0,4):=by kernel_rfl
theorem yf168_1:tField Tryz.prog 168 1=some (1,9):=by kernel_rfl
theorem yf168_2:tField Tryz.prog 168 2=some (2,68):=by kernel_rfl
theorem yp168:tPlaces Tryz.prog 168=some [(0,1),(1,1),(2,1)]:=by kernel_rfl
theorem yf201_0:tField Tryz.prog 201 0=some (0,5):=by kernel_rfl
theorem yf201_1:tField Tryz.prog 201 1=some (1,5):=by kernel_rfl
theorem yf202_0:tField Tryz.prog 202 0=some (0,5):=by kernel_rfl
theorem yf202_1:tField Tryz.prog 202 1=some (1,5):=by kernel_rfl
theorem yf208_0:tField Tryz.prog 208 0=some (0,17):=by kernel_rfl
theorem yf208_1:tField Tryz.prog 208 1=some (1,17):=by kernel_rfl
theorem yf208_2:tField Tryz.prog 208 2=some (2,17):=by kernel_rfl
theorem yf208_3:tField Tryz.prog 208 3=some (3,9):=by kernel_rfl
theorem yf211_0:tField Tryz.prog 211 0=some (0,210):=by kernel_rfl
theorem yf218_0:tField Tryz.prog 218 0=some (0,12):=by kernel_rfl
theorem yf218_1:tField Tryz.prog 218 1=some (1,12):=by kernel_rfl
theorem yf218_2:tField Tryz.prog 218 2=some (2,192):=by kernel_rfl
theorem yf218_3:tField Tryz.prog 218 3=some (3,213):=by kernel_rfl
theorem yf218_4:tField Tryz.prog 218 4=some (4,5):=by kernel_rfl
theorem yf218_5:tField Tryz.prog 218 5=some (5,5):=by kernel_rfl
theorem yf218_6:tField Tryz.prog 218 6=some (6,214):=by kernel_rfl
theorem yf218_7:tField Tryz.prog 218 7=some (7,215):=by kernel_rfl
theorem yf218_8:tField Tryz.prog 218 8=some (8,151):=by kernel_rfl
theorem yf218_9:tField Tryz.prog 218 9=some (9,216):=by kernel_rfl
theorem yf218_10:tField Tryz.prog 218 10=some (10,217):=by kernel_rfl
theorem ya220:tAgg Tryz.prog 220=some true:=by kernel_rfl
theorem ys220:tSize Tryz.prog 220=some 4:=by kernel_rfl
theorem yby220:tBytes Tryz.prog 220=some 40:=by kernel_rfl
theorem yz220:tZero Tryz.prog 220=some (.agg #[.string ByteArray.empty,.bool false,.int .i64 0,.int .i64 0]):=by kernel_rfl
theorem yf220_0:tField Tryz.prog 220 0=some (0,9):=by kernel_rfl
theorem yf220_1:tField Tryz.prog 220 1=some (1,52):=by kernel_rfl
theorem yp220:tPlaces Tryz.prog 220=some [(0,1),(1,3)]:=by kernel_rfl
theorem ya221:tAgg Tryz.prog 221=some true:=by kernel_rfl
theorem ys221:tSize Tryz.prog 221=some 4:=by kernel_rfl
theorem yby221:tBytes Tryz.prog 221=some 40:=by kernel_rfl
theorem yz221:tZero Tryz.prog 221=some (.agg #[.string ByteArray.empty,.bool false,.int .i64 0,.int .i64 0]):=by kernel_rfl
theorem yf221_0:tField Tryz.prog 221 0=some (0,9):=by kernel_rfl
theorem yf221_1:tField Tryz.prog 221 1=some (1,52):=by kernel_rfl
theorem yp221:tPlaces Tryz.prog 221=some [(0,1),(1,3)]:=by kernel_rfl
end Go.Proofs.YtbiepiggmagfcaaGreatDoor
