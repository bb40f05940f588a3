/- Closed facts on the types of the program, for the second executor. No conditions. -/
import Derived.Test.YtbiepiggmagfcaaDoorSyA
import Derived.Test.YtbiepiggmagfcaaDoorRows
import Derived.KernelRfl
set_option linter.unusedVariables false
set_option linter.unusedSimpArgs false
namespace Go.Proofs.YtbiepiggmagfcaaDoor
open Go Go.Sy
theorem ya2:tAgg Tryd.prog 2=some false:=by kernel_rfl
theorem ys2:tSize Tryd.prog 2=some 1:=by kernel_rfl
theorem yby2:tBytes Tryd.prog 2=some 8:=by kernel_rfl
theorem yz2:tZero Tryd.prog 2=some (.int .i64 0):=by kernel_rfl
theorem yi2:tInt Tryd.prog 2=some .i64:=by kernel_rfl
theorem ya3:tAgg Tryd.prog 3=some false:=by kernel_rfl
theorem ys3:tSize Tryd.prog 3=some 1:=by kernel_rfl
theorem yby3:tBytes Tryd.prog 3=some 8:=by kernel_rfl
theorem yz3:tZero Tryd.prog 3=some (.int .i64 0):=by kernel_rfl
theorem yi3:tInt Tryd.prog 3=some .i64:=by kernel_rfl
theorem ya4:tAgg Tryd.prog 4=some false:=by kernel_rfl
theorem ys4:tSize Tryd.prog 4=some 1:=by kernel_rfl
theorem yby4:tBytes Tryd.prog 4=some 1:=by kernel_rfl
theorem yz4:tZero Tryd.prog 4=some (.bool false):=by kernel_rfl
theorem yb4:Tryd.prog.underlying 4=some .bool:=by kernel_rfl
theorem ya5:tAgg Tryd.prog 5=some false:=by kernel_rfl
theorem ys5:tSize Tryd.prog 5=some 1:=by kernel_rfl
theorem yby5:tBytes Tryd.prog 5=some 1:=by kernel_rfl
theorem yz5:tZero Tryd.prog 5=some (.int .u8 0):=by kernel_rfl
theorem yi5:tInt Tryd.prog 5=some .u8:=by kernel_rfl
theorem yf7_0:tField Tryd.prog 7 0=some (0,2):=by kernel_rfl
theorem yf7_1:tField Tryd.prog 7 1=some (1,3):=by kernel_rfl
theorem yf7_2:tField Tryd.prog 7 2=some (2,4):=by kernel_rfl
theorem yf7_3:tField Tryd.prog 7 3=some (3,6):=by kernel_rfl
theorem ya9:tAgg Tryd.prog 9=some false:=by kernel_rfl
theorem ys9:tSize Tryd.prog 9=some 1:=by kernel_rfl
theorem yby9:tBytes Tryd.prog 9=some 16:=by kernel_rfl
theorem yz9:tZero Tryd.prog 9=some (.string ByteArray.empty):=by kernel_rfl
theorem yst9:tStr Tryd.prog 9=true:=by kernel_rfl
theorem yf13_0:tField Tryd.prog 13 0=some (0,9):=by kernel_rfl
theorem yf13_1:tField Tryd.prog 13 1=some (1,12):=by kernel_rfl
theorem yf18_0:tField Tryd.prog 18 0=some (0,17):=by kernel_rfl
theorem ya22:tAgg Tryd.prog 22=some false:=by kernel_rfl
theorem ys22:tSize Tryd.prog 22=some 1:=by kernel_rfl
theorem yby22:tBytes Tryd.prog 22=some 8:=by kernel_rfl
theorem yz22:tZero Tryd.prog 22=some (.pointer none):=by kernel_rfl
theorem ypt22:tPtr Tryd.prog 22=some 51:=by kernel_rfl
theorem ya25:tAgg Tryd.prog 25=some false:=by kernel_rfl
theorem ys25:tSize Tryd.prog 25=some 1:=by kernel_rfl
theorem yby25:tBytes Tryd.prog 25=some 8:=by kernel_rfl
theorem yz25:tZero Tryd.prog 25=some (.pointer none):=by kernel_rfl
theorem ypt25:tPtr Tryd.prog 25=some 3:=by kernel_rfl
theorem ya28:tAgg Tryd.prog 28=some false:=by kernel_rfl
theorem ys28:tSize Tryd.prog 28=some 1:=by kernel_rfl
theorem yby28:tBytes Tryd.prog 28=some 24:=by kernel_rfl
theorem yz28:tZero Tryd.prog 28=some (.slice none 0 0):=by kernel_rfl
theorem ye28:tElem Tryd.prog 28=some 5:=by kernel_rfl
theorem ya29:tAgg Tryd.prog 29=some false:=by kernel_rfl
theorem ys29:tSize Tryd.prog 29=some 1:=by kernel_rfl
theorem yby29:tBytes Tryd.prog 29=some 24:=by kernel_rfl
theorem yz29:tZero Tryd.prog 29=some (.slice none 0 0):=by kernel_rfl
theorem ye29:tElem Tryd.prog 29=some 89:=by kernel_rfl
theorem ya30:tAgg Tryd.prog 30=some false:=by kernel_rfl
theorem ys30:tSize Tryd.prog 30=some 1:=by kernel_rfl
theorem yby30:tBytes Tryd.prog 30=some 24:=by kernel_rfl
theorem yz30:tZero Tryd.prog 30=some (.slice none 0 0):=by kernel_rfl
theorem ye30:tElem Tryd.prog 30=some 47:=by kernel_rfl
theorem ya31:tAgg Tryd.prog 31=some true:=by kernel_rfl
theorem ys31:tSize Tryd.prog 31=some 4:=by kernel_rfl
theorem yby31:tBytes Tryd.prog 31=some 88:=by kernel_rfl
theorem yz31:tZero Tryd.prog 31=some (.agg #[.string ByteArray.empty,.slice none 0 0,.slice none 0 0,.slice none 0 0]):=by kernel_rfl
theorem yf31_0:tField Tryd.prog 31 0=some (0,9):=by kernel_rfl
theorem yf31_1:tField Tryd.prog 31 1=some (1,29):=by kernel_rfl
theorem yf31_2:tField Tryd.prog 31 2=some (2,29):=by kernel_rfl
theorem yf31_3:tField Tryd.prog 31 3=some (3,30):=by kernel_rfl
theorem yp31:tPlaces Tryd.prog 31=some [(0,1),(1,1),(2,1),(3,1)]:=by kernel_rfl
theorem ya32:tAgg Tryd.prog 32=some true:=by kernel_rfl
theorem ys32:tSize Tryd.prog 32=some 4:=by kernel_rfl
theorem yby32:tBytes Tryd.prog 32=some 88:=by kernel_rfl
theorem yz32:tZero Tryd.prog 32=some (.agg #[.string ByteArray.empty,.slice none 0 0,.slice none 0 0,.slice none 0 0]):=by kernel_rfl
theorem yf32_0:tField Tryd.prog 32 0=some (0,9):=by kernel_rfl
theorem yf32_1:tField Tryd.prog 32 1=some (1,29):=by kernel_rfl
theorem yf32_2:tField Tryd.prog 32 2=some (2,29):=by kernel_rfl
theorem yf32_3:tField Tryd.prog 32 3=some (3,30):=by kernel_rfl
theorem yp32:tPlaces Tryd.prog 32=some [(0,1),(1,1),(2,1),(3,1)]:=by kernel_rfl
theorem ya40:tAgg Tryd.prog 40=some false:=by kernel_rfl
theorem ys40:tSize Tryd.prog 40=some 1:=by kernel_rfl
theorem yby40:tBytes Tryd.prog 40=some 8:=by kernel_rfl
theorem yz40:tZero Tryd.prog 40=some (.pointer none):=by kernel_rfl
theorem ypt40:tPtr Tryd.prog 40=some 53:=by kernel_rfl
theorem ya45:tAgg Tryd.prog 45=some false:=by kernel_rfl
theorem ys45:tSize Tryd.prog 45=some 1:=by kernel_rfl
theorem yby45:tBytes Tryd.prog 45=some 24:=by kernel_rfl
theorem yz45:tZero Tryd.prog 45=some (.slice none 0 0):=by kernel_rfl
theorem ye45:tElem Tryd.prog 45=some 126:=by kernel_rfl
theorem ya46:tAgg Tryd.prog 46=some true:=by kernel_rfl
theorem ys46:tSize Tryd.prog 46=some 10:=by kernel_rfl
theorem yby46:tBytes Tryd.prog 46=some 144:=by kernel_rfl
theorem yz46:tZero Tryd.prog 46=some (.agg #[.int .i64 0,.string ByteArray.empty,.string ByteArray.empty,.pointer none,.pointer none,.pointer none,.slice none 0 0,.slice none 0 0,.slice none 0 0,.int .i64 0]):=by kernel_rfl
theorem yf46_0:tField Tryd.prog 46 0=some (0,3):=by kernel_rfl
theorem yf46_1:tField Tryd.prog 46 1=some (1,9):=by kernel_rfl
theorem yf46_2:tField Tryd.prog 46 2=some (2,9):=by kernel_rfl
theorem yf46_3:tField Tryd.prog 46 3=some (3,22):=by kernel_rfl
theorem yf46_4:tField Tryd.prog 46 4=some (4,22):=by kernel_rfl
theorem yf46_5:tField Tryd.prog 46 5=some (5,40):=by kernel_rfl
theorem yf46_6:tField Tryd.prog 46 6=some (6,45):=by kernel_rfl
theorem yf46_7:tField Tryd.prog 46 7=some (7,30):=by kernel_rfl
theorem yf46_8:tField Tryd.prog 46 8=some (8,30):=by kernel_rfl
theorem yf46_9:tField Tryd.prog 46 9=some (9,3):=by kernel_rfl
theorem yp46:tPlaces Tryd.prog 46=some [(0,1),(1,1),(2,1),(3,1),(4,1),(5,1),(6,1),(7,1),(8,1),(9,1)]:=by kernel_rfl
theorem ya47:tAgg Tryd.prog 47=some true:=by kernel_rfl
theorem ys47:tSize Tryd.prog 47=some 10:=by kernel_rfl
theorem yby47:tBytes Tryd.prog 47=some 144:=by kernel_rfl
theorem yz47:tZero Tryd.prog 47=some (.agg #[.int .i64 0,.string ByteArray.empty,.string ByteArray.empty,.pointer none,.pointer none,.pointer none,.slice none 0 0,.slice none 0 0,.slice none 0 0,.int .i64 0]):=by kernel_rfl
theorem yf47_0:tField Tryd.prog 47 0=some (0,3):=by kernel_rfl
theorem yf47_1:tField Tryd.prog 47 1=some (1,9):=by kernel_rfl
theorem yf47_2:tField Tryd.prog 47 2=some (2,9):=by kernel_rfl
theorem yf47_3:tField Tryd.prog 47 3=some (3,22):=by kernel_rfl
theorem yf47_4:tField Tryd.prog 47 4=some (4,22):=by kernel_rfl
theorem yf47_5:tField Tryd.prog 47 5=some (5,40):=by kernel_rfl
theorem yf47_6:tField Tryd.prog 47 6=some (6,45):=by kernel_rfl
theorem yf47_7:tField Tryd.prog 47 7=some (7,30):=by kernel_rfl
theorem yf47_8:tField Tryd.prog 47 8=some (8,30):=by kernel_rfl
theorem yf47_9:tField Tryd.prog 47 9=some (9,3):=by kernel_rfl
theorem yp47:tPlaces Tryd.prog 47=some [(0,1),(1,1),(2,1),(3,1),(4,1),(5,1),(6,1),(7,1),(8,1),(9,1)]:=by kernel_rfl
theorem ya50:tAgg Tryd.prog 50=some true:=by kernel_rfl
theorem ys50:tSize Tryd.prog 50=some 5:=by kernel_rfl
theorem yby50:tBytes Tryd.prog 50=some 48:=by kernel_rfl
theorem yz50:tZero Tryd.prog 50=some (.agg #[.int .i64 0,.int .i64 0,.string ByteArray.empty,.pointer none,.pointer none]):=by kernel_rfl
theorem yf50_0:tField Tryd.prog 50 0=some (0,3):=by kernel_rfl
theorem yf50_1:tField Tryd.prog 50 1=some (1,2):=by kernel_rfl
theorem yf50_2:tField Tryd.prog 50 2=some (2,9):=by kernel_rfl
theorem yf50_3:tField Tryd.prog 50 3=some (3,22):=by kernel_rfl
theorem yf50_4:tField Tryd.prog 50 4=some (4,22):=by kernel_rfl
theorem yp50:tPlaces Tryd.prog 50=some [(0,1),(1,1),(2,1),(3,1),(4,1)]:=by kernel_rfl
theorem ya51:tAgg Tryd.prog 51=some true:=by kernel_rfl
theorem ys51:tSize Tryd.prog 51=some 5:=by kernel_rfl
theorem yby51:tBytes Tryd.prog 51=some 48:=by kernel_rfl
theorem yz51:tZero Tryd.prog 51=some (.agg #[.int .i64 0,.int .i64 0,.string ByteArray.empty,.pointer none,.pointer none]):=by kernel_rfl
theorem yf51_0:tField Tryd.prog 51 0=some (0,3):=by kernel_rfl
theorem yf51_1:tField Tryd.prog 51 1=some (1,2):=by kernel_rfl
theorem yf51_2:tField Tryd.prog 51 2=some (2,9):=by kernel_rfl
theorem yf51_3:tField Tryd.prog 51 3=some (3,22):=by kernel_rfl
theorem yf51_4:tField Tryd.prog 51 4=some (4,22):=by kernel_rfl
theorem yp51:tPlaces Tryd.prog 51=some [(0,1),(1,1),(2,1),(3,1),(4,1)]:=by kernel_rfl
theorem ya52:tAgg Tryd.prog 52=some true:=by kernel_rfl
theorem ys52:tSize Tryd.prog 52=some 6:=by kernel_rfl
theorem yby52:tBytes Tryd.prog 52=some 56:=by kernel_rfl
theorem yz52:tZero Tryd.prog 52=some (.agg #[.int .i64 0,.pointer none,.pointer none,.pointer none,.pointer none,.string ByteArray.empty]):=by kernel_rfl
theorem yf52_0:tField Tryd.prog 52 0=some (0,3):=by kernel_rfl
theorem yf52_1:tField Tryd.prog 52 1=some (1,22):=by kernel_rfl
theorem yf52_2:tField Tryd.prog 52 2=some (2,22):=by kernel_rfl
theorem yf52_3:tField Tryd.prog 52 3=some (3,40):=by kernel_rfl
theorem yf52_4:tField Tryd.prog 52 4=some (4,40):=by kernel_rfl
theorem yf52_5:tField Tryd.prog 52 5=some (5,9):=by kernel_rfl
theorem yp52:tPlaces Tryd.prog 52=some [(0,1),(1,1),(2,1),(3,1),(4,1),(5,1)]:=by kernel_rfl
theorem ya53:tAgg Tryd.prog 53=some true:=by kernel_rfl
theorem ys53:tSize Tryd.prog 53=some 6:=by kernel_rfl
theorem yby53:tBytes Tryd.prog 53=some 56:=by kernel_rfl
theorem yz53:tZero Tryd.prog 53=some (.agg #[.int .i64 0,.pointer none,.pointer none,.pointer none,.pointer none,.string ByteArray.empty]):=by kernel_rfl
theorem yf53_0:tField Tryd.prog 53 0=some (0,3):=by kernel_rfl
theorem yf53_1:tField Tryd.prog 53 1=some (1,22):=by kernel_rfl
theorem yf53_2:tField Tryd.prog 53 2=some (2,22):=by kernel_rfl
theorem yf53_3:tField Tryd.prog 53 3=some (3,40):=by kernel_rfl
theorem yf53_4:tField Tryd.prog 53 4=some (4,40):=by kernel_rfl
theorem yf53_5:tField Tryd.prog 53 5=some (5,9):=by kernel_rfl
theorem yp53:tPlaces Tryd.prog 53=some [(0,1),(1,1),(2,1),(3,1),(4,1),(5,1)]:=by kernel_rfl
theorem ya55:tAgg Tryd.prog 55=some false:=by kernel_rfl
theorem ys55:tSize Tryd.prog 55=some 1:=by kernel_rfl
theorem yby55:tBytes Tryd.prog 55=some 24:=by kernel_rfl
theorem yz55:tZero Tryd.prog 55=some (.slice none 0 0):=by kernel_rfl
theorem ye55:tElem Tryd.prog 55=some 9:=by kernel_rfl
theorem ya56:tAgg Tryd.prog 56=some false:=by kernel_rfl
theorem ys56:tSize Tryd.prog 56=some 1:=by kernel_rfl
theorem yby56:tBytes Tryd.prog 56=some 24:=by kernel_rfl
theorem yz56:tZero Tryd.prog 56=some (.slice none 0 0):=by kernel_rfl
theorem ye56:tElem Tryd.prog 56=some 98:=by kernel_rfl
theorem ya57:tAgg Tryd.prog 57=some true:=by kernel_rfl
theorem ys57:tSize Tryd.prog 57=some 2:=by kernel_rfl
theorem yby57:tBytes Tryd.prog 57=some 48:=by kernel_rfl
theorem yz57:tZero Tryd.prog 57=some (.agg #[.slice none 0 0,.slice none 0 0]):=by kernel_rfl
theorem yf57_0:tField Tryd.prog 57 0=some (0,55):=by kernel_rfl
theorem yf57_1:tField Tryd.prog 57 1=some (1,56):=by kernel_rfl
theorem yp57:tPlaces Tryd.prog 57=some [(0,1),(1,1)]:=by kernel_rfl
theorem ya58:tAgg Tryd.prog 58=some true:=by kernel_rfl
theorem ys58:tSize Tryd.prog 58=some 2:=by kernel_rfl
theorem yby58:tBytes Tryd.prog 58=some 48:=by kernel_rfl
theorem yz58:tZero Tryd.prog 58=some (.agg #[.slice none 0 0,.slice none 0 0]):=by kernel_rfl
theorem yf58_0:tField Tryd.prog 58 0=some (0,55):=by kernel_rfl
theorem yf58_1:tField Tryd.prog 58 1=some (1,56):=by kernel_rfl
theorem yp58:tPlaces Tryd.prog 58=some [(0,1),(1,1)]:=by kernel_rfl
theorem ya63:tAgg Tryd.prog 63=some false:=by kernel_rfl
theorem ys63:tSize Tryd.prog 63=some 1:=by kernel_rfl
theorem yby63:tBytes Tryd.prog 63=some 24:=by kernel_rfl
theorem yz63:tZero Tryd.prog 63=some (.slice none 0 0):=by kernel_rfl
theorem ye63:tElem Tryd.prog 63=some 101:=by kernel_rfl
theorem ya66:tAgg Tryd.prog 66=some false:=by kernel_rfl
theorem ys66:tSize Tryd.prog 66=some 1:=by kernel_rfl
theorem yby66:tBytes Tryd.prog 66=some 8:=by kernel_rfl
theorem yz66:tZero Tryd.prog 66=some (.pointer none):=by kernel_rfl
theorem ypt66:tPtr Tryd.prog 66=some 68:=by kernel_rfl
theorem ya67:tAgg Tryd.prog 67=some true:=by kernel_rfl
theorem ys67:tSize Tryd.prog 67=some 7:=by kernel_rfl
theorem yby67:tBytes Tryd.prog 67=some 72:=by kernel_rfl
theorem yz67:tZero Tryd.prog 67=some (.agg #[.slice none 0 0,.int .i64 0,.int .i64 0,.int .i64 0,.int .i64 0,.int .i64 0,.int .i64 0]):=by kernel_rfl
theorem yf67_0:tField Tryd.prog 67 0=some (0,63):=by kernel_rfl
theorem yf67_1:tField Tryd.prog 67 1=some (1,3):=by kernel_rfl
theorem yf67_2:tField Tryd.prog 67 2=some (2,3):=by kernel_rfl
theorem yf67_3:tField Tryd.prog 67 3=some (3,3):=by kernel_rfl
theorem yf67_4:tField Tryd.prog 67 4=some (4,3):=by kernel_rfl
theorem yf67_5:tField Tryd.prog 67 5=some (5,3):=by kernel_rfl
theorem yf67_6:tField Tryd.prog 67 6=some (6,3):=by kernel_rfl
theorem yp67:tPlaces Tryd.prog 67=some [(0,1),(1,1),(2,1),(3,1),(4,1),(5,1),(6,1)]:=by kernel_rfl
theorem ya68:tAgg Tryd.prog 68=some true:=by kernel_rfl
theorem ys68:tSize Tryd.prog 68=some 7:=by kernel_rfl
theorem yby68:tBytes Tryd.prog 68=some 72:=by kernel_rfl
theorem yz68:tZero Tryd.prog 68=some (.agg #[.slice none 0 0,.int .i64 0,.int .i64 0,.int .i64 0,.int .i64 0,.int .i64 0,.int .i64 0]):=by kernel_rfl
theorem yf68_0:tField Tryd.prog 68 0=some (0,63):=by kernel_rfl
theorem yf68_1:tField Tryd.prog 68 1=some (1,3):=by kernel_rfl
theorem yf68_2:tField Tryd.prog 68 2=some (2,3):=by kernel_rfl
theorem yf68_3:tField Tryd.prog 68 3=some (3,3):=by kernel_rfl
theorem yf68_4:tField Tryd.prog 68 4=some (4,3):=by kernel_rfl
theorem yf68_5:tField Tryd.prog 68 5=some (5,3):=by kernel_rfl
theorem yf68_6:tField Tryd.prog 68 6=some (6,3):=by kernel_rfl
theorem yp68:tPlaces Tryd.prog 68=some [(0,1),(1,1),(2,1),(3,1),(4,1),(5,1),(6,1)]:=by kernel_rfl
theorem ya75:tAgg Tryd.prog 75=some false:=by kernel_rfl
theorem ys75:tSize Tryd.prog 75=some 1:=by kernel_rfl
theorem yby75:tBytes Tryd.prog 75=some 8:=by kernel_rfl
theorem yz75:tZero Tryd.prog 75=some (.pointer none):=by kernel_rfl
theorem ypt75:tPtr Tryd.prog 75=some 77:=by kernel_rfl
theorem ya76:tAgg Tryd.prog 76=some true:=by kernel_rfl
theorem ys76:tSize Tryd.prog 76=some 3:=by kernel_rfl
theorem yby76:tBytes Tryd.prog 76=some 40:=by kernel_rfl
theorem yz76:tZero Tryd.prog 76=some (.agg #[.slice none 0 0,.int .i64 0,.int .i64 0]):=by kernel_rfl
theorem yf76_0:tField Tryd.prog 76 0=some (0,28):=by kernel_rfl
theorem yf76_1:tField Tryd.prog 76 1=some (1,3):=by kernel_rfl
theorem yf76_2:tField Tryd.prog 76 2=some (2,3):=by kernel_rfl
theorem yp76:tPlaces Tryd.prog 76=some [(0,1),(1,1),(2,1)]:=by kernel_rfl
theorem ya77:tAgg Tryd.prog 77=some true:=by kernel_rfl
theorem ys77:tSize Tryd.prog 77=some 3:=by kernel_rfl
theorem yby77:tBytes Tryd.prog 77=some 40:=by kernel_rfl
theorem yz77:tZero Tryd.prog 77=some (.agg #[.slice none 0 0,.int .i64 0,.int .i64 0]):=by kernel_rfl
theorem yf77_0:tField Tryd.prog 77 0=some (0,28):=by kernel_rfl
theorem yf77_1:tField Tryd.prog 77 1=some (1,3):=by kernel_rfl
theorem yf77_2:tField Tryd.prog 77 2=some (2,3):=by kernel_rfl
theorem yp77:tPlaces Tryd.prog 77=some [(0,1),(1,1),(2,1)]:=by kernel_rfl
theorem ya81:tAgg Tryd.prog 81=some false:=by kernel_rfl
theorem ys81:tSize Tryd.prog 81=some 1:=by kernel_rfl
theorem yby81:tBytes Tryd.prog 81=some 8:=by kernel_rfl
theorem yz81:tZero Tryd.prog 81=some (.pointer none):=by kernel_rfl
theorem ypt81:tPtr Tryd.prog 81=some 83:=by kernel_rfl
theorem ya82:tAgg Tryd.prog 82=some true:=by kernel_rfl
theorem ys82:tSize Tryd.prog 82=some 2:=by kernel_rfl
theorem yby82:tBytes Tryd.prog 82=some 32:=by kernel_rfl
theorem yz82:tZero Tryd.prog 82=some (.agg #[.pointer none,.slice none 0 0]):=by kernel_rfl
theorem yf82_0:tField Tryd.prog 82 0=some (0,81):=by kernel_rfl
theorem yf82_1:tField Tryd.prog 82 1=some (1,28):=by kernel_rfl
theorem yp82:tPlaces Tryd.prog 82=some [(0,1),(1,1)]:=by kernel_rfl
theorem ya83:tAgg Tryd.prog 83=some true:=by kernel_rfl
theorem ys83:tSize Tryd.prog 83=some 2:=by kernel_rfl
theorem yby83:tBytes Tryd.prog 83=some 32:=by kernel_rfl
theorem yz83:tZero Tryd.prog 83=some (.agg #[.pointer none,.slice none 0 0]):=by kernel_rfl
theorem yf83_0:tField Tryd.prog 83 0=some (0,81):=by kernel_rfl
theorem yf83_1:tField Tryd.prog 83 1=some (1,28):=by kernel_rfl
theorem yp83:tPlaces Tryd.prog 83=some [(0,1),(1,1)]:=by kernel_rfl
theorem ya84:tAgg Tryd.prog 84=some true:=by kernel_rfl
theorem ys84:tSize Tryd.prog 84=some 3:=by kernel_rfl
theorem yby84:tBytes Tryd.prog 84=some 40:=by kernel_rfl
theorem yz84:tZero Tryd.prog 84=some (.agg #[.pointer none,.slice none 0 0,.int .i64 0]):=by kernel_rfl
theorem yf84_0:tField Tryd.prog 84 0=some (0,83):=by kernel_rfl
theorem yf84_1:tField Tryd.prog 84 1=some (2,3):=by kernel_rfl
theorem yp84:tPlaces Tryd.prog 84=some [(0,2),(2,1)]:=by kernel_rfl
theorem ya85:tAgg Tryd.prog 85=some true:=by kernel_rfl
theorem ys85:tSize Tryd.prog 85=some 3:=by kernel_rfl
theorem yby85:tBytes Tryd.prog 85=some 40:=by kernel_rfl
theorem yz85:tZero Tryd.prog 85=some (.agg #[.pointer none,.slice none 0 0,.int .i64 0]):=by kernel_rfl
theorem yf85_0:tField Tryd.prog 85 0=some (0,83):=by kernel_rfl
theorem yf85_1:tField Tryd.prog 85 1=some (2,3):=by kernel_rfl
theorem yp85:tPlaces Tryd.prog 85=some [(0,2),(2,1)]:=by kernel_rfl
theorem ya86:tAgg Tryd.prog 86=some true:=by kernel_rfl
theorem ys86:tSize Tryd.prog 86=some 3:=by kernel_rfl
theorem yby86:tBytes Tryd.prog 86=some 40:=by kernel_rfl
theorem yz86:tZero Tryd.prog 86=some (.agg #[.pointer none,.slice none 0 0,.int .i64 0]):=by kernel_rfl
theorem yf86_0:tField Tryd.prog 86 0=some (0,85):=by kernel_rfl
theorem yp86:tPlaces Tryd.prog 86=some [(0,3)]:=by kernel_rfl
theorem ya87:tAgg Tryd.prog 87=some true:=by kernel_rfl
theorem ys87:tSize Tryd.prog 87=some 3:=by kernel_rfl
theorem yby87:tBytes Tryd.prog 87=some 40:=by kernel_rfl
theorem yz87:tZero Tryd.prog 87=some (.agg #[.pointer none,.slice none 0 0,.int .i64 0]):=by kernel_rfl
theorem yf87_0:tField Tryd.prog 87 0=some (0,85):=by kernel_rfl
theorem yp87:tPlaces Tryd.prog 87=some [(0,3)]:=by kernel_rfl
theorem ya88:tAgg Tryd.prog 88=some true:=by kernel_rfl
theorem ys88:tSize Tryd.prog 88=some 2:=by kernel_rfl
theorem yby88:tBytes Tryd.prog 88=some 24:=by kernel_rfl
theorem yz88:tZero Tryd.prog 88=some (.agg #[.string ByteArray.empty,.bool false]):=by kernel_rfl
theorem yf88_0:tField Tryd.prog 88 0=some (0,9):=by kernel_rfl
theorem yf88_1:tField Tryd.prog 88 1=some (1,4):=by kernel_rfl
theorem yp88:tPlaces Tryd.prog 88=some [(0,1),(1,1)]:=by kernel_rfl
theorem ya89:tAgg Tryd.prog 89=some true:=by kernel_rfl
theorem ys89:tSize Tryd.prog 89=some 2:=by kernel_rfl
theorem yby89:tBytes Tryd.prog 89=some 24:=by kernel_rfl
theorem yz89:tZero Tryd.prog 89=some (.agg #[.string ByteArray.empty,.bool false]):=by kernel_rfl
theorem yf89_0:tField Tryd.prog 89 0=some (0,9):=by kernel_rfl
theorem yf89_1:tField Tryd.prog 89 1=some (1,4):=by kernel_rfl
theorem yp89:tPlaces Tryd.prog 89=some [(0,1),(1,1)]:=by kernel_rfl
theorem yq89:tEq Tryd.prog 89=some [(0,.s),(1,.b)]:=by kernel_rfl
theorem ya97:tAgg Tryd.prog 97=some true:=by kernel_rfl
theorem ys97:tSize Tryd.prog 97=some 2:=by kernel_rfl
theorem yby97:tBytes Tryd.prog 97=some 24:=by kernel_rfl
theorem yz97:tZero Tryd.prog 97=some (.agg #[.string ByteArray.empty,.int .i64 0]):=by kernel_rfl
theorem yf97_0:tField Tryd.prog 97 0=some (0,9):=by kernel_rfl
theorem yf97_1:tField Tryd.prog 97 1=some (1,3):=by kernel_rfl
theorem yp97:tPlaces Tryd.prog 97=some [(0,1),(1,1)]:=by kernel_rfl
theorem ya98:tAgg Tryd.prog 98=some true:=by kernel_rfl
theorem ys98:tSize Tryd.prog 98=some 2:=by kernel_rfl
theorem yby98:tBytes Tryd.prog 98=some 24:=by kernel_rfl
theorem yz98:tZero Tryd.prog 98=some (.agg #[.string ByteArray.empty,.int .i64 0]):=by kernel_rfl
theorem yf98_0:tField Tryd.prog 98 0=some (0,9):=by kernel_rfl
theorem yf98_1:tField Tryd.prog 98 1=some (1,3):=by kernel_rfl
theorem yp98:tPlaces Tryd.prog 98=some [(0,1),(1,1)]:=by kernel_rfl
theorem yq98:tEq Tryd.prog 98=some [(0,.s),(1,.i)]:=by kernel_rfl
theorem ya100:tAgg Tryd.prog 100=some true:=by kernel_rfl
theorem ys100:tSize Tryd.prog 100=some 3:=by kernel_rfl
theorem yby100:tBytes Tryd.prog 100=some 32:=by kernel_rfl
theorem yz100:tZero Tryd.prog 100=some (.agg #[.int .i64 0,.string ByteArray.empty,.int .i64 0]):=by kernel_rfl
theorem yf100_0:tField Tryd.prog 100 0=some (0,3):=by kernel_rfl
theorem yf100_1:tField Tryd.prog 100 1=some (1,9):=by kernel_rfl
theorem yf100_2:tField Tryd.prog 100 2=some (2,3):=by kernel_rfl
theorem yp100:tPlaces Tryd.prog 100=some [(0,1),(1,1),(2,1)]:=by kernel_rfl
theorem ya101:tAgg Tryd.prog 101=some true:=by kernel_rfl
theorem ys101:tSize Tryd.prog 101=some 3:=by kernel_rfl
theorem yby101:tBytes Tryd.prog 101=some 32:=by kernel_rfl
theorem yz101:tZero Tryd.prog 101=some (.agg #[.int .i64 0,.string ByteArray.empty,.int .i64 0]):=by kernel_rfl
theorem yf101_0:tField Tryd.prog 101 0=some (0,3):=by kernel_rfl
theorem yf101_1:tField Tryd.prog 101 1=some (1,9):=by kernel_rfl
theorem yf101_2:tField Tryd.prog 101 2=some (2,3):=by kernel_rfl
theorem yp101:tPlaces Tryd.prog 101=some [(0,1),(1,1),(2,1)]:=by kernel_rfl
theorem yq101:tEq Tryd.prog 101=some [(0,.i),(1,.s),(2,.i)]:=by kernel_rfl
theorem ya102:tAgg Tryd.prog 102=some false:=by kernel_rfl
theorem ys102:tSize Tryd.prog 102=some 1:=by kernel_rfl
theorem yby102:tBytes Tryd.prog 102=some 8:=by kernel_rfl
theorem yz102:tZero Tryd.prog 102=some (.int .u64 0):=by kernel_rfl
theorem yi102:tInt Tryd.prog 102=some .u64:=by kernel_rfl
theorem ya125:tAgg Tryd.prog 125=some true:=by kernel_rfl
theorem ys125:tSize Tryd.prog 125=some 3:=by kernel_rfl
theorem yby125:tBytes Tryd.prog 125=some 32:=by kernel_rfl
theorem yz125:tZero Tryd.prog 125=some (.agg #[.bool false,.string ByteArray.empty,.pointer none]):=by kernel_rfl
theorem yf125_0:tField Tryd.prog 125 0=some (0,4):=by kernel_rfl
theorem yf125_1:tField Tryd.prog 125 1=some (1,9):=by kernel_rfl
theorem yf125_2:tField Tryd.prog 125 2=some (2,22):=by kernel_rfl
theorem yp125:tPlaces Tryd.prog 125=some [(0,1),(1,1),(2,1)]:=by kernel_rfl
theorem ya126:tAgg Tryd.prog 126=some true:=by kernel_rfl
theorem ys126:tSize Tryd.prog 126=some 3:=by kernel_rfl
theorem yby126:tBytes Tryd.prog 126=some 32:=by kernel_rfl
theorem yz126:tZero Tryd.prog 126=some (.agg #[.bool false,.string ByteArray.empty,.pointer none]):=by kernel_rfl
theorem yf126_0:tField Tryd.prog 126 0=some (0,4):=by kernel_rfl
theorem yf126_1:tField Tryd.prog 126 1=some (1,9):=by kernel_rfl
theorem yf126_2:tField Tryd.prog 126 2=some (2,22):=by kernel_rfl
theorem yp126:tPlaces Tryd.prog 126=some [(0,1),(1,1),(2,1)]:=by kernel_rfl
theorem yf141_0:tField Tryd.prog 141 0=some (0,17):=by kernel_rfl
theorem yf141_1:tField Tryd.prog 141 1=some (1,17):=by kernel_rfl
theorem yf141_2:tField Tryd.prog 141 2=some (2,17):=by kernel_rfl
theorem yf141_3:tField Tryd.prog 141 3=some (3,9):=by kernel_rfl
theorem yf144_0:tField Tryd.prog 144 0=some (0,143):=by kernel_rfl
theorem yf152_0:tField Tryd.prog 152 0=some (0,12):=by kernel_rfl
theorem yf152_1:tField Tryd.prog 152 1=some (1,12):=by kernel_rfl
theorem yf152_2:tField Tryd.prog 152 2=some (2,129):=by kernel_rfl
theorem yf152_3:tField Tryd.prog 152 3=some (3,147):=by kernel_rfl
theorem yf152_4:tField Tryd.prog 152 4=some (4,5):=by kernel_rfl
theorem yf152_5:tField Tryd.prog 152 5=some (5,5):=by kernel_rfl
theorem yf152_6:tField Tryd.prog 152 6=some (6,148):=by kernel_rfl
theorem yf152_7:tField Tryd.prog 152 7=some (7,149):=by kernel_rfl
theorem yf152_8:tField Tryd.prog 152 8=some (8,113):=by kernel_rfl
theorem yf152_9:tField Tryd.prog 152 9=some (9,150):=by kernel_rfl
theorem yf152_10:tField Tryd.prog 152 10=some (10,151):=by kernel_rfl
end Go.Proofs.YtbiepiggmagfcaaDoor
