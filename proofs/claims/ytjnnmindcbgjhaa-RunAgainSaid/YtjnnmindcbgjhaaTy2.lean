/- Closed facts on the types of the program, for the second executor. No conditions. -/
import Derived.Test.YtjnnmindcbgjhaaSyB
import Derived.Test.YtjnnmindcbgjhaaRows
import Derived.KernelRfl
set_option linter.unusedVariables false
set_option linter.unusedSimpArgs false
namespace Go.Proofs.Ytjnnmindcbgjhaa
open Go Go.Sy
theorem ya2:tAgg Try.prog 2=some false:=by kernel_rfl
theorem ys2:tSize Try.prog 2=some 1:=by kernel_rfl
theorem yby2:tBytes Try.prog 2=some 8:=by kernel_rfl
theorem yz2:tZero Try.prog 2=some (.int .i64 0):=by kernel_rfl
theorem yi2:tInt Try.prog 2=some .i64:=by kernel_rfl
theorem ya3:tAgg Try.prog 3=some false:=by kernel_rfl
theorem ys3:tSize Try.prog 3=some 1:=by kernel_rfl
theorem yby3:tBytes Try.prog 3=some 8:=by kernel_rfl
theorem yz3:tZero Try.prog 3=some (.int .i64 0):=by kernel_rfl
theorem yi3:tInt Try.prog 3=some .i64:=by kernel_rfl
theorem ya4:tAgg Try.prog 4=some false:=by kernel_rfl
theorem ys4:tSize Try.prog 4=some 1:=by kernel_rfl
theorem yby4:tBytes Try.prog 4=some 1:=by kernel_rfl
theorem yz4:tZero Try.prog 4=some (.bool false):=by kernel_rfl
theorem yb4:Try.prog.underlying 4=some .bool:=by kernel_rfl
theorem ya5:tAgg Try.prog 5=some false:=by kernel_rfl
theorem ys5:tSize Try.prog 5=some 1:=by kernel_rfl
theorem yby5:tBytes Try.prog 5=some 1:=by kernel_rfl
theorem yz5:tZero Try.prog 5=some (.int .u8 0):=by kernel_rfl
theorem yi5:tInt Try.prog 5=some .u8:=by kernel_rfl
theorem yf7_0:tField Try.prog 7 0=some (0,2):=by kernel_rfl
theorem yf7_1:tField Try.prog 7 1=some (1,3):=by kernel_rfl
theorem yf7_2:tField Try.prog 7 2=some (2,4):=by kernel_rfl
theorem yf7_3:tField Try.prog 7 3=some (3,6):=by kernel_rfl
theorem ya9:tAgg Try.prog 9=some false:=by kernel_rfl
theorem ys9:tSize Try.prog 9=some 1:=by kernel_rfl
theorem yby9:tBytes Try.prog 9=some 16:=by kernel_rfl
theorem yz9:tZero Try.prog 9=some (.string ByteArray.empty):=by kernel_rfl
theorem yst9:tStr Try.prog 9=true:=by kernel_rfl
theorem yf13_0:tField Try.prog 13 0=some (0,9):=by kernel_rfl
theorem yf13_1:tField Try.prog 13 1=some (1,12):=by kernel_rfl
theorem yf18_0:tField Try.prog 18 0=some (0,17):=by kernel_rfl
theorem ya20:tAgg Try.prog 20=some false:=by kernel_rfl
theorem ys20:tSize Try.prog 20=some 1:=by kernel_rfl
theorem yby20:tBytes Try.prog 20=some 16:=by kernel_rfl
theorem yz20:tZero Try.prog 20=some (.nilIface):=by kernel_rfl
theorem ya22:tAgg Try.prog 22=some false:=by kernel_rfl
theorem ys22:tSize Try.prog 22=some 1:=by kernel_rfl
theorem yby22:tBytes Try.prog 22=some 24:=by kernel_rfl
theorem yz22:tZero Try.prog 22=some (.slice none 0 0):=by kernel_rfl
theorem ye22:tElem Try.prog 22=some 80:=by kernel_rfl
theorem ya23:tAgg Try.prog 23=some false:=by kernel_rfl
theorem ys23:tSize Try.prog 23=some 1:=by kernel_rfl
theorem yby23:tBytes Try.prog 23=some 24:=by kernel_rfl
theorem yz23:tZero Try.prog 23=some (.slice none 0 0):=by kernel_rfl
theorem ye23:tElem Try.prog 23=some 2:=by kernel_rfl
theorem ya24:tAgg Try.prog 24=some false:=by kernel_rfl
theorem ys24:tSize Try.prog 24=some 1:=by kernel_rfl
theorem yby24:tBytes Try.prog 24=some 2:=by kernel_rfl
theorem yz24:tZero Try.prog 24=some (.int .u16 0):=by kernel_rfl
theorem yi24:tInt Try.prog 24=some .u16:=by kernel_rfl
theorem ya27:tAgg Try.prog 27=some false:=by kernel_rfl
theorem ys27:tSize Try.prog 27=some 1:=by kernel_rfl
theorem yby27:tBytes Try.prog 27=some 24:=by kernel_rfl
theorem yz27:tZero Try.prog 27=some (.slice none 0 0):=by kernel_rfl
theorem ye27:tElem Try.prog 27=some 9:=by kernel_rfl
theorem ya28:tAgg Try.prog 28=some false:=by kernel_rfl
theorem ys28:tSize Try.prog 28=some 1:=by kernel_rfl
theorem yby28:tBytes Try.prog 28=some 24:=by kernel_rfl
theorem yz28:tZero Try.prog 28=some (.slice none 0 0):=by kernel_rfl
theorem ye28:tElem Try.prog 28=some 92:=by kernel_rfl
theorem ya29:tAgg Try.prog 29=some true:=by kernel_rfl
theorem ys29:tSize Try.prog 29=some 2:=by kernel_rfl
theorem yby29:tBytes Try.prog 29=some 48:=by kernel_rfl
theorem yz29:tZero Try.prog 29=some (.agg #[.slice none 0 0,.slice none 0 0]):=by kernel_rfl
theorem yf29_0:tField Try.prog 29 0=some (0,27):=by kernel_rfl
theorem yf29_1:tField Try.prog 29 1=some (1,28):=by kernel_rfl
theorem yp29:tPlaces Try.prog 29=some [(0,1),(1,1)]:=by kernel_rfl
theorem ya30:tAgg Try.prog 30=some true:=by kernel_rfl
theorem ys30:tSize Try.prog 30=some 2:=by kernel_rfl
theorem yby30:tBytes Try.prog 30=some 48:=by kernel_rfl
theorem yz30:tZero Try.prog 30=some (.agg #[.slice none 0 0,.slice none 0 0]):=by kernel_rfl
theorem yc30:tConc Try.prog 30=true:=by kernel_rfl
theorem yf30_0:tField Try.prog 30 0=some (0,27):=by kernel_rfl
theorem yf30_1:tField Try.prog 30 1=some (1,28):=by kernel_rfl
theorem yp30:tPlaces Try.prog 30=some [(0,1),(1,1)]:=by kernel_rfl
theorem ya31:tAgg Try.prog 31=some false:=by kernel_rfl
theorem ys31:tSize Try.prog 31=some 1:=by kernel_rfl
theorem yby31:tBytes Try.prog 31=some 24:=by kernel_rfl
theorem yz31:tZero Try.prog 31=some (.slice none 0 0):=by kernel_rfl
theorem ye31:tElem Try.prog 31=some 85:=by kernel_rfl
theorem ya32:tAgg Try.prog 32=some true:=by kernel_rfl
theorem ys32:tSize Try.prog 32=some 3:=by kernel_rfl
theorem yby32:tBytes Try.prog 32=some 72:=by kernel_rfl
theorem yz32:tZero Try.prog 32=some (.agg #[.slice none 0 0,.slice none 0 0,.slice none 0 0]):=by kernel_rfl
theorem yf32_0:tField Try.prog 32 0=some (0,30):=by kernel_rfl
theorem yf32_1:tField Try.prog 32 1=some (2,31):=by kernel_rfl
theorem yp32:tPlaces Try.prog 32=some [(0,2),(2,1)]:=by kernel_rfl
theorem ya33:tAgg Try.prog 33=some true:=by kernel_rfl
theorem ys33:tSize Try.prog 33=some 3:=by kernel_rfl
theorem yby33:tBytes Try.prog 33=some 72:=by kernel_rfl
theorem yz33:tZero Try.prog 33=some (.agg #[.slice none 0 0,.slice none 0 0,.slice none 0 0]):=by kernel_rfl
theorem yc33:tConc Try.prog 33=true:=by kernel_rfl
theorem yf33_0:tField Try.prog 33 0=some (0,30):=by kernel_rfl
theorem yf33_1:tField Try.prog 33 1=some (2,31):=by kernel_rfl
theorem yp33:tPlaces Try.prog 33=some [(0,2),(2,1)]:=by kernel_rfl
theorem ya35:tAgg Try.prog 35=some false:=by kernel_rfl
theorem ys35:tSize Try.prog 35=some 1:=by kernel_rfl
theorem yby35:tBytes Try.prog 35=some 8:=by kernel_rfl
theorem yz35:tZero Try.prog 35=some (.nilFunc):=by kernel_rfl
theorem ya37:tAgg Try.prog 37=some false:=by kernel_rfl
theorem ys37:tSize Try.prog 37=some 1:=by kernel_rfl
theorem yby37:tBytes Try.prog 37=some 24:=by kernel_rfl
theorem yz37:tZero Try.prog 37=some (.slice none 0 0):=by kernel_rfl
theorem ye37:tElem Try.prog 37=some 58:=by kernel_rfl
theorem ya39:tAgg Try.prog 39=some true:=by kernel_rfl
theorem ys39:tSize Try.prog 39=some 2:=by kernel_rfl
theorem yby39:tBytes Try.prog 39=some 16:=by kernel_rfl
theorem yz39:tZero Try.prog 39=some (.agg #[.int .i64 0,.int .i64 0]):=by kernel_rfl
theorem yf39_0:tField Try.prog 39 0=some (0,3):=by kernel_rfl
theorem yf39_1:tField Try.prog 39 1=some (1,3):=by kernel_rfl
theorem yp39:tPlaces Try.prog 39=some [(0,1),(1,1)]:=by kernel_rfl
theorem ya40:tAgg Try.prog 40=some true:=by kernel_rfl
theorem ys40:tSize Try.prog 40=some 2:=by kernel_rfl
theorem yby40:tBytes Try.prog 40=some 16:=by kernel_rfl
theorem yz40:tZero Try.prog 40=some (.agg #[.int .i64 0,.int .i64 0]):=by kernel_rfl
theorem yc40:tConc Try.prog 40=true:=by kernel_rfl
theorem yf40_0:tField Try.prog 40 0=some (0,3):=by kernel_rfl
theorem yf40_1:tField Try.prog 40 1=some (1,3):=by kernel_rfl
theorem yp40:tPlaces Try.prog 40=some [(0,1),(1,1)]:=by kernel_rfl
theorem yq40:tEq Try.prog 40=some [(0,.i),(1,.i)]:=by kernel_rfl
theorem ya41:tAgg Try.prog 41=some false:=by kernel_rfl
theorem ys41:tSize Try.prog 41=some 1:=by kernel_rfl
theorem yby41:tBytes Try.prog 41=some 24:=by kernel_rfl
theorem yz41:tZero Try.prog 41=some (.slice none 0 0):=by kernel_rfl
theorem ye41:tElem Try.prog 41=some 52:=by kernel_rfl
theorem ya42:tAgg Try.prog 42=some false:=by kernel_rfl
theorem ys42:tSize Try.prog 42=some 1:=by kernel_rfl
theorem yby42:tBytes Try.prog 42=some 24:=by kernel_rfl
theorem yz42:tZero Try.prog 42=some (.slice none 0 0):=by kernel_rfl
theorem ye42:tElem Try.prog 42=some 68:=by kernel_rfl
theorem ya43:tAgg Try.prog 43=some true:=by kernel_rfl
theorem ys43:tSize Try.prog 43=some 2:=by kernel_rfl
theorem yby43:tBytes Try.prog 43=some 48:=by kernel_rfl
theorem yz43:tZero Try.prog 43=some (.agg #[.slice none 0 0,.slice none 0 0]):=by kernel_rfl
theorem yf43_0:tField Try.prog 43 0=some (0,41):=by kernel_rfl
theorem yf43_1:tField Try.prog 43 1=some (1,42):=by kernel_rfl
theorem yp43:tPlaces Try.prog 43=some [(0,1),(1,1)]:=by kernel_rfl
theorem ya44:tAgg Try.prog 44=some true:=by kernel_rfl
theorem ys44:tSize Try.prog 44=some 2:=by kernel_rfl
theorem yby44:tBytes Try.prog 44=some 48:=by kernel_rfl
theorem yz44:tZero Try.prog 44=some (.agg #[.slice none 0 0,.slice none 0 0]):=by kernel_rfl
theorem yc44:tConc Try.prog 44=true:=by kernel_rfl
theorem yf44_0:tField Try.prog 44 0=some (0,41):=by kernel_rfl
theorem yf44_1:tField Try.prog 44 1=some (1,42):=by kernel_rfl
theorem yp44:tPlaces Try.prog 44=some [(0,1),(1,1)]:=by kernel_rfl
theorem ya45:tAgg Try.prog 45=some true:=by kernel_rfl
theorem ys45:tSize Try.prog 45=some 7:=by kernel_rfl
theorem yby45:tBytes Try.prog 45=some 96:=by kernel_rfl
theorem yz45:tZero Try.prog 45=some (.agg #[.int .i64 0,.int .i64 0,.string ByteArray.empty,.int .i64 0,.int .i64 0,.slice none 0 0,.slice none 0 0]):=by kernel_rfl
theorem yf45_0:tField Try.prog 45 0=some (0,3):=by kernel_rfl
theorem yf45_1:tField Try.prog 45 1=some (1,2):=by kernel_rfl
theorem yf45_2:tField Try.prog 45 2=some (2,9):=by kernel_rfl
theorem yf45_3:tField Try.prog 45 3=some (3,40):=by kernel_rfl
theorem yf45_4:tField Try.prog 45 4=some (5,44):=by kernel_rfl
theorem yp45:tPlaces Try.prog 45=some [(0,1),(1,1),(2,1),(3,2),(5,2)]:=by kernel_rfl
theorem ya46:tAgg Try.prog 46=some true:=by kernel_rfl
theorem ys46:tSize Try.prog 46=some 7:=by kernel_rfl
theorem yby46:tBytes Try.prog 46=some 96:=by kernel_rfl
theorem yz46:tZero Try.prog 46=some (.agg #[.int .i64 0,.int .i64 0,.string ByteArray.empty,.int .i64 0,.int .i64 0,.slice none 0 0,.slice none 0 0]):=by kernel_rfl
theorem yc46:tConc Try.prog 46=true:=by kernel_rfl
theorem yf46_0:tField Try.prog 46 0=some (0,3):=by kernel_rfl
theorem yf46_1:tField Try.prog 46 1=some (1,2):=by kernel_rfl
theorem yf46_2:tField Try.prog 46 2=some (2,9):=by kernel_rfl
theorem yf46_3:tField Try.prog 46 3=some (3,40):=by kernel_rfl
theorem yf46_4:tField Try.prog 46 4=some (5,44):=by kernel_rfl
theorem yp46:tPlaces Try.prog 46=some [(0,1),(1,1),(2,1),(3,2),(5,2)]:=by kernel_rfl
theorem ya51:tAgg Try.prog 51=some true:=by kernel_rfl
theorem ys51:tSize Try.prog 51=some 2:=by kernel_rfl
theorem yby51:tBytes Try.prog 51=some 24:=by kernel_rfl
theorem yz51:tZero Try.prog 51=some (.agg #[.string ByteArray.empty,.int .i64 0]):=by kernel_rfl
theorem yf51_0:tField Try.prog 51 0=some (0,9):=by kernel_rfl
theorem yf51_1:tField Try.prog 51 1=some (1,2):=by kernel_rfl
theorem yp51:tPlaces Try.prog 51=some [(0,1),(1,1)]:=by kernel_rfl
theorem ya52:tAgg Try.prog 52=some true:=by kernel_rfl
theorem ys52:tSize Try.prog 52=some 2:=by kernel_rfl
theorem yby52:tBytes Try.prog 52=some 24:=by kernel_rfl
theorem yz52:tZero Try.prog 52=some (.agg #[.string ByteArray.empty,.int .i64 0]):=by kernel_rfl
theorem yc52:tConc Try.prog 52=true:=by kernel_rfl
theorem yf52_0:tField Try.prog 52 0=some (0,9):=by kernel_rfl
theorem yf52_1:tField Try.prog 52 1=some (1,2):=by kernel_rfl
theorem yp52:tPlaces Try.prog 52=some [(0,1),(1,1)]:=by kernel_rfl
theorem yq52:tEq Try.prog 52=some [(0,.s),(1,.i)]:=by kernel_rfl
theorem ya57:tAgg Try.prog 57=some true:=by kernel_rfl
theorem ys57:tSize Try.prog 57=some 3:=by kernel_rfl
theorem yby57:tBytes Try.prog 57=some 32:=by kernel_rfl
theorem yz57:tZero Try.prog 57=some (.agg #[.bool false,.int .i64 0,.string ByteArray.empty]):=by kernel_rfl
theorem yf57_0:tField Try.prog 57 0=some (0,4):=by kernel_rfl
theorem yf57_1:tField Try.prog 57 1=some (1,2):=by kernel_rfl
theorem yf57_2:tField Try.prog 57 2=some (2,9):=by kernel_rfl
theorem yp57:tPlaces Try.prog 57=some [(0,1),(1,1),(2,1)]:=by kernel_rfl
theorem ya58:tAgg Try.prog 58=some true:=by kernel_rfl
theorem ys58:tSize Try.prog 58=some 3:=by kernel_rfl
theorem yby58:tBytes Try.prog 58=some 32:=by kernel_rfl
theorem yz58:tZero Try.prog 58=some (.agg #[.bool false,.int .i64 0,.string ByteArray.empty]):=by kernel_rfl
theorem yc58:tConc Try.prog 58=true:=by kernel_rfl
theorem yf58_0:tField Try.prog 58 0=some (0,4):=by kernel_rfl
theorem yf58_1:tField Try.prog 58 1=some (1,2):=by kernel_rfl
theorem yf58_2:tField Try.prog 58 2=some (2,9):=by kernel_rfl
theorem yp58:tPlaces Try.prog 58=some [(0,1),(1,1),(2,1)]:=by kernel_rfl
theorem yq58:tEq Try.prog 58=some [(0,.b),(1,.i),(2,.s)]:=by kernel_rfl
theorem ya60:tAgg Try.prog 60=some false:=by kernel_rfl
theorem ys60:tSize Try.prog 60=some 1:=by kernel_rfl
theorem yby60:tBytes Try.prog 60=some 24:=by kernel_rfl
theorem yz60:tZero Try.prog 60=some (.slice none 0 0):=by kernel_rfl
theorem ye60:tElem Try.prog 60=some 4:=by kernel_rfl
theorem ya64:tAgg Try.prog 64=some true:=by kernel_rfl
theorem ys64:tSize Try.prog 64=some 2:=by kernel_rfl
theorem yby64:tBytes Try.prog 64=some 32:=by kernel_rfl
theorem yz64:tZero Try.prog 64=some (.agg #[.string ByteArray.empty,.string ByteArray.empty]):=by kernel_rfl
theorem yf64_0:tField Try.prog 64 0=some (0,9):=by kernel_rfl
theorem yf64_1:tField Try.prog 64 1=some (1,9):=by kernel_rfl
theorem yp64:tPlaces Try.prog 64=some [(0,1),(1,1)]:=by kernel_rfl
theorem ya65:tAgg Try.prog 65=some true:=by kernel_rfl
theorem ys65:tSize Try.prog 65=some 2:=by kernel_rfl
theorem yby65:tBytes Try.prog 65=some 32:=by kernel_rfl
theorem yz65:tZero Try.prog 65=some (.agg #[.string ByteArray.empty,.string ByteArray.empty]):=by kernel_rfl
theorem yc65:tConc Try.prog 65=true:=by kernel_rfl
theorem yf65_0:tField Try.prog 65 0=some (0,9):=by kernel_rfl
theorem yf65_1:tField Try.prog 65 1=some (1,9):=by kernel_rfl
theorem yp65:tPlaces Try.prog 65=some [(0,1),(1,1)]:=by kernel_rfl
theorem yq65:tEq Try.prog 65=some [(0,.s),(1,.s)]:=by kernel_rfl
theorem ya66:tAgg Try.prog 66=some false:=by kernel_rfl
theorem ys66:tSize Try.prog 66=some 1:=by kernel_rfl
theorem yby66:tBytes Try.prog 66=some 24:=by kernel_rfl
theorem yz66:tZero Try.prog 66=some (.slice none 0 0):=by kernel_rfl
theorem ye66:tElem Try.prog 66=some 65:=by kernel_rfl
theorem ya67:tAgg Try.prog 67=some true:=by kernel_rfl
theorem ys67:tSize Try.prog 67=some 2:=by kernel_rfl
theorem yby67:tBytes Try.prog 67=some 40:=by kernel_rfl
theorem yz67:tZero Try.prog 67=some (.agg #[.string ByteArray.empty,.slice none 0 0]):=by kernel_rfl
theorem yf67_0:tField Try.prog 67 0=some (0,9):=by kernel_rfl
theorem yf67_1:tField Try.prog 67 1=some (1,23):=by kernel_rfl
theorem yp67:tPlaces Try.prog 67=some [(0,1),(1,1)]:=by kernel_rfl
theorem ya68:tAgg Try.prog 68=some true:=by kernel_rfl
theorem ys68:tSize Try.prog 68=some 2:=by kernel_rfl
theorem yby68:tBytes Try.prog 68=some 40:=by kernel_rfl
theorem yz68:tZero Try.prog 68=some (.agg #[.string ByteArray.empty,.slice none 0 0]):=by kernel_rfl
theorem yc68:tConc Try.prog 68=true:=by kernel_rfl
theorem yf68_0:tField Try.prog 68 0=some (0,9):=by kernel_rfl
theorem yf68_1:tField Try.prog 68 1=some (1,23):=by kernel_rfl
theorem yp68:tPlaces Try.prog 68=some [(0,1),(1,1)]:=by kernel_rfl
theorem ya71:tAgg Try.prog 71=some false:=by kernel_rfl
theorem ys71:tSize Try.prog 71=some 1:=by kernel_rfl
theorem yby71:tBytes Try.prog 71=some 24:=by kernel_rfl
theorem yz71:tZero Try.prog 71=some (.slice none 0 0):=by kernel_rfl
theorem ye71:tElem Try.prog 71=some 3:=by kernel_rfl
theorem ya74:tAgg Try.prog 74=some false:=by kernel_rfl
theorem ys74:tSize Try.prog 74=some 1:=by kernel_rfl
theorem yby74:tBytes Try.prog 74=some 1:=by kernel_rfl
theorem yz74:tZero Try.prog 74=some (.int .i8 0):=by kernel_rfl
theorem yi74:tInt Try.prog 74=some .i8:=by kernel_rfl
theorem ya75:tAgg Try.prog 75=some false:=by kernel_rfl
theorem ys75:tSize Try.prog 75=some 1:=by kernel_rfl
theorem yby75:tBytes Try.prog 75=some 24:=by kernel_rfl
theorem yz75:tZero Try.prog 75=some (.slice none 0 0):=by kernel_rfl
theorem ye75:tElem Try.prog 75=some 74:=by kernel_rfl
theorem ya80:tAgg Try.prog 80=some false:=by kernel_rfl
theorem ys80:tSize Try.prog 80=some 1:=by kernel_rfl
theorem yby80:tBytes Try.prog 80=some 24:=by kernel_rfl
theorem yz80:tZero Try.prog 80=some (.slice none 0 0):=by kernel_rfl
theorem ye80:tElem Try.prog 80=some 5:=by kernel_rfl
theorem ya82:tAgg Try.prog 82=some false:=by kernel_rfl
theorem ys82:tSize Try.prog 82=some 1:=by kernel_rfl
theorem yby82:tBytes Try.prog 82=some 24:=by kernel_rfl
theorem yz82:tZero Try.prog 82=some (.slice none 0 0):=by kernel_rfl
theorem ye82:tElem Try.prog 82=some 87:=by kernel_rfl
theorem ya83:tAgg Try.prog 83=some false:=by kernel_rfl
theorem ys83:tSize Try.prog 83=some 1:=by kernel_rfl
theorem yby83:tBytes Try.prog 83=some 24:=by kernel_rfl
theorem yz83:tZero Try.prog 83=some (.slice none 0 0):=by kernel_rfl
theorem ye83:tElem Try.prog 83=some 152:=by kernel_rfl
theorem ya84:tAgg Try.prog 84=some true:=by kernel_rfl
theorem ys84:tSize Try.prog 84=some 4:=by kernel_rfl
theorem yby84:tBytes Try.prog 84=some 88:=by kernel_rfl
theorem yz84:tZero Try.prog 84=some (.agg #[.string ByteArray.empty,.slice none 0 0,.slice none 0 0,.slice none 0 0]):=by kernel_rfl
theorem yf84_0:tField Try.prog 84 0=some (0,9):=by kernel_rfl
theorem yf84_1:tField Try.prog 84 1=some (1,82):=by kernel_rfl
theorem yf84_2:tField Try.prog 84 2=some (2,82):=by kernel_rfl
theorem yf84_3:tField Try.prog 84 3=some (3,83):=by kernel_rfl
theorem yp84:tPlaces Try.prog 84=some [(0,1),(1,1),(2,1),(3,1)]:=by kernel_rfl
theorem ya85:tAgg Try.prog 85=some true:=by kernel_rfl
theorem ys85:tSize Try.prog 85=some 4:=by kernel_rfl
theorem yby85:tBytes Try.prog 85=some 88:=by kernel_rfl
theorem yz85:tZero Try.prog 85=some (.agg #[.string ByteArray.empty,.slice none 0 0,.slice none 0 0,.slice none 0 0]):=by kernel_rfl
theorem yc85:tConc Try.prog 85=true:=by kernel_rfl
theorem yf85_0:tField Try.prog 85 0=some (0,9):=by kernel_rfl
theorem yf85_1:tField Try.prog 85 1=some (1,82):=by kernel_rfl
theorem yf85_2:tField Try.prog 85 2=some (2,82):=by kernel_rfl
theorem yf85_3:tField Try.prog 85 3=some (3,83):=by kernel_rfl
theorem yp85:tPlaces Try.prog 85=some [(0,1),(1,1),(2,1),(3,1)]:=by kernel_rfl
theorem ya86:tAgg Try.prog 86=some true:=by kernel_rfl
theorem ys86:tSize Try.prog 86=some 2:=by kernel_rfl
theorem yby86:tBytes Try.prog 86=some 24:=by kernel_rfl
theorem yz86:tZero Try.prog 86=some (.agg #[.string ByteArray.empty,.bool false]):=by kernel_rfl
theorem yf86_0:tField Try.prog 86 0=some (0,9):=by kernel_rfl
theorem yf86_1:tField Try.prog 86 1=some (1,4):=by kernel_rfl
theorem yp86:tPlaces Try.prog 86=some [(0,1),(1,1)]:=by kernel_rfl
theorem ya87:tAgg Try.prog 87=some true:=by kernel_rfl
theorem ys87:tSize Try.prog 87=some 2:=by kernel_rfl
theorem yby87:tBytes Try.prog 87=some 24:=by kernel_rfl
theorem yz87:tZero Try.prog 87=some (.agg #[.string ByteArray.empty,.bool false]):=by kernel_rfl
theorem yc87:tConc Try.prog 87=true:=by kernel_rfl
theorem yf87_0:tField Try.prog 87 0=some (0,9):=by kernel_rfl
theorem yf87_1:tField Try.prog 87 1=some (1,4):=by kernel_rfl
theorem yp87:tPlaces Try.prog 87=some [(0,1),(1,1)]:=by kernel_rfl
theorem yq87:tEq Try.prog 87=some [(0,.s),(1,.b)]:=by kernel_rfl
theorem ya88:tAgg Try.prog 88=some false:=by kernel_rfl
theorem ys88:tSize Try.prog 88=some 1:=by kernel_rfl
theorem yby88:tBytes Try.prog 88=some 8:=by kernel_rfl
theorem yz88:tZero Try.prog 88=some (.pointer none):=by kernel_rfl
theorem ypt88:tPtr Try.prog 88=some 94:=by kernel_rfl
theorem ya89:tAgg Try.prog 89=some false:=by kernel_rfl
theorem ys89:tSize Try.prog 89=some 1:=by kernel_rfl
theorem yby89:tBytes Try.prog 89=some 8:=by kernel_rfl
theorem yz89:tZero Try.prog 89=some (.map none):=by kernel_rfl
theorem ymp89:tMap Try.prog 89=some (9,3):=by kernel_rfl
theorem ya91:tAgg Try.prog 91=some true:=by kernel_rfl
theorem ys91:tSize Try.prog 91=some 2:=by kernel_rfl
theorem yby91:tBytes Try.prog 91=some 24:=by kernel_rfl
theorem yz91:tZero Try.prog 91=some (.agg #[.string ByteArray.empty,.int .i64 0]):=by kernel_rfl
theorem yf91_0:tField Try.prog 91 0=some (0,9):=by kernel_rfl
theorem yf91_1:tField Try.prog 91 1=some (1,3):=by kernel_rfl
theorem yp91:tPlaces Try.prog 91=some [(0,1),(1,1)]:=by kernel_rfl
theorem ya92:tAgg Try.prog 92=some true:=by kernel_rfl
theorem ys92:tSize Try.prog 92=some 2:=by kernel_rfl
theorem yby92:tBytes Try.prog 92=some 24:=by kernel_rfl
theorem yz92:tZero Try.prog 92=some (.agg #[.string ByteArray.empty,.int .i64 0]):=by kernel_rfl
theorem yc92:tConc Try.prog 92=true:=by kernel_rfl
theorem yf92_0:tField Try.prog 92 0=some (0,9):=by kernel_rfl
theorem yf92_1:tField Try.prog 92 1=some (1,3):=by kernel_rfl
theorem yp92:tPlaces Try.prog 92=some [(0,1),(1,1)]:=by kernel_rfl
theorem yq92:tEq Try.prog 92=some [(0,.s),(1,.i)]:=by kernel_rfl
theorem ya93:tAgg Try.prog 93=some true:=by kernel_rfl
theorem ys93:tSize Try.prog 93=some 17:=by kernel_rfl
theorem yby93:tBytes Try.prog 93=some 256:=by kernel_rfl
theorem yz93:tZero Try.prog 93=some (.agg #[.slice none 0 0,.slice none 0 0,.slice none 0 0,.int .i64 0,.int .i64 0,.map none,.map none,.map none,.slice none 0 0,.slice none 0 0,.int .i64 0,.int .i64 0,.string ByteArray.empty,.int .i64 0,.int .i64 0,.slice none 0 0,.slice none 0 0]):=by kernel_rfl
theorem yf93_0:tField Try.prog 93 0=some (0,33):=by kernel_rfl
theorem yf93_1:tField Try.prog 93 1=some (3,3):=by kernel_rfl
theorem yf93_2:tField Try.prog 93 2=some (4,3):=by kernel_rfl
theorem yf93_3:tField Try.prog 93 3=some (5,89):=by kernel_rfl
theorem yf93_4:tField Try.prog 93 4=some (6,89):=by kernel_rfl
theorem yf93_5:tField Try.prog 93 5=some (7,89):=by kernel_rfl
theorem yf93_6:tField Try.prog 93 6=some (8,44):=by kernel_rfl
theorem yf93_7:tField Try.prog 93 7=some (10,46):=by kernel_rfl
theorem yp93:tPlaces Try.prog 93=some [(0,3),(3,1),(4,1),(5,1),(6,1),(7,1),(8,2),(10,7)]:=by kernel_rfl
theorem ya94:tAgg Try.prog 94=some true:=by kernel_rfl
theorem ys94:tSize Try.prog 94=some 17:=by kernel_rfl
theorem yby94:tBytes Try.prog 94=some 256:=by kernel_rfl
theorem yz94:tZero Try.prog 94=some (.agg #[.slice none 0 0,.slice none 0 0,.slice none 0 0,.int .i64 0,.int .i64 0,.map none,.map none,.map none,.slice none 0 0,.slice none 0 0,.int .i64 0,.int .i64 0,.string ByteArray.empty,.int .i64 0,.int .i64 0,.slice none 0 0,.slice none 0 0]):=by kernel_rfl
theorem yc94:tConc Try.prog 94=true:=by kernel_rfl
theorem yf94_0:tField Try.prog 94 0=some (0,33):=by kernel_rfl
theorem yf94_1:tField Try.prog 94 1=some (3,3):=by kernel_rfl
theorem yf94_2:tField Try.prog 94 2=some (4,3):=by kernel_rfl
theorem yf94_3:tField Try.prog 94 3=some (5,89):=by kernel_rfl
theorem yf94_4:tField Try.prog 94 4=some (6,89):=by kernel_rfl
theorem yf94_5:tField Try.prog 94 5=some (7,89):=by kernel_rfl
theorem yf94_6:tField Try.prog 94 6=some (8,44):=by kernel_rfl
theorem yf94_7:tField Try.prog 94 7=some (10,46):=by kernel_rfl
theorem yp94:tPlaces Try.prog 94=some [(0,3),(3,1),(4,1),(5,1),(6,1),(7,1),(8,2),(10,7)]:=by kernel_rfl
theorem ya102:tAgg Try.prog 102=some false:=by kernel_rfl
theorem ys102:tSize Try.prog 102=some 1:=by kernel_rfl
theorem yby102:tBytes Try.prog 102=some 24:=by kernel_rfl
theorem yz102:tZero Try.prog 102=some (.slice none 0 0):=by kernel_rfl
theorem ye102:tElem Try.prog 102=some 37:=by kernel_rfl
theorem ya114:tAgg Try.prog 114=some false:=by kernel_rfl
theorem ys114:tSize Try.prog 114=some 1:=by kernel_rfl
theorem yby114:tBytes Try.prog 114=some 24:=by kernel_rfl
theorem yz114:tZero Try.prog 114=some (.slice none 0 0):=by kernel_rfl
theorem ye114:tElem Try.prog 114=some 125:=by kernel_rfl
theorem ya117:tAgg Try.prog 117=some false:=by kernel_rfl
theorem ys117:tSize Try.prog 117=some 1:=by kernel_rfl
theorem yby117:tBytes Try.prog 117=some 8:=by kernel_rfl
theorem yz117:tZero Try.prog 117=some (.pointer none):=by kernel_rfl
theorem ypt117:tPtr Try.prog 117=some 119:=by kernel_rfl
theorem ya118:tAgg Try.prog 118=some true:=by kernel_rfl
theorem ys118:tSize Try.prog 118=some 7:=by kernel_rfl
theorem yby118:tBytes Try.prog 118=some 72:=by kernel_rfl
theorem yz118:tZero Try.prog 118=some (.agg #[.slice none 0 0,.int .i64 0,.int .i64 0,.int .i64 0,.int .i64 0,.int .i64 0,.int .i64 0]):=by kernel_rfl
theorem yf118_0:tField Try.prog 118 0=some (0,114):=by kernel_rfl
theorem yf118_1:tField Try.prog 118 1=some (1,3):=by kernel_rfl
theorem yf118_2:tField Try.prog 118 2=some (2,3):=by kernel_rfl
theorem yf118_3:tField Try.prog 118 3=some (3,3):=by kernel_rfl
theorem yf118_4:tField Try.prog 118 4=some (4,3):=by kernel_rfl
theorem yf118_5:tField Try.prog 118 5=some (5,3):=by kernel_rfl
theorem yf118_6:tField Try.prog 118 6=some (6,3):=by kernel_rfl
theorem yp118:tPlaces Try.prog 118=some [(0,1),(1,1),(2,1),(3,1),(4,1),(5,1),(6,1)]:=by kernel_rfl
theorem ya119:tAgg Try.prog 119=some true:=by kernel_rfl
theorem ys119:tSize Try.prog 119=some 7:=by kernel_rfl
theorem yby119:tBytes Try.prog 119=some 72:=by kernel_rfl
theorem yz119:tZero Try.prog 119=some (.agg #[.slice none 0 0,.int .i64 0,.int .i64 0,.int .i64 0,.int .i64 0,.int .i64 0,.int .i64 0]):=by kernel_rfl
theorem yc119:tConc Try.prog 119=true:=by kernel_rfl
theorem yf119_0:tField Try.prog 119 0=some (0,114):=by kernel_rfl
theorem yf119_1:tField Try.prog 119 1=some (1,3):=by kernel_rfl
theorem yf119_2:tField Try.prog 119 2=some (2,3):=by kernel_rfl
theorem yf119_3:tField Try.prog 119 3=some (3,3):=by kernel_rfl
theorem yf119_4:tField Try.prog 119 4=some (4,3):=by kernel_rfl
theorem yf119_5:tField Try.prog 119 5=some (5,3):=by kernel_rfl
theorem yf119_6:tField Try.prog 119 6=some (6,3):=by kernel_rfl
theorem yp119:tPlaces Try.prog 119=some [(0,1),(1,1),(2,1),(3,1),(4,1),(5,1),(6,1)]:=by kernel_rfl
theorem ya124:tAgg Try.prog 124=some true:=by kernel_rfl
theorem ys124:tSize Try.prog 124=some 3:=by kernel_rfl
theorem yby124:tBytes Try.prog 124=some 32:=by kernel_rfl
theorem yz124:tZero Try.prog 124=some (.agg #[.int .i64 0,.string ByteArray.empty,.int .i64 0]):=by kernel_rfl
theorem yf124_0:tField Try.prog 124 0=some (0,3):=by kernel_rfl
theorem yf124_1:tField Try.prog 124 1=some (1,9):=by kernel_rfl
theorem yf124_2:tField Try.prog 124 2=some (2,3):=by kernel_rfl
theorem yp124:tPlaces Try.prog 124=some [(0,1),(1,1),(2,1)]:=by kernel_rfl
theorem ya125:tAgg Try.prog 125=some true:=by kernel_rfl
theorem ys125:tSize Try.prog 125=some 3:=by kernel_rfl
theorem yby125:tBytes Try.prog 125=some 32:=by kernel_rfl
theorem yz125:tZero Try.prog 125=some (.agg #[.int .i64 0,.string ByteArray.empty,.int .i64 0]):=by kernel_rfl
theorem yc125:tConc Try.prog 125=true:=by kernel_rfl
theorem yf125_0:tField Try.prog 125 0=some (0,3):=by kernel_rfl
theorem yf125_1:tField Try.prog 125 1=some (1,9):=by kernel_rfl
theorem yf125_2:tField Try.prog 125 2=some (2,3):=by kernel_rfl
theorem yp125:tPlaces Try.prog 125=some [(0,1),(1,1),(2,1)]:=by kernel_rfl
theorem yq125:tEq Try.prog 125=some [(0,.i),(1,.s),(2,.i)]:=by kernel_rfl
theorem ya133:tAgg Try.prog 133=some false:=by kernel_rfl
theorem ys133:tSize Try.prog 133=some 1:=by kernel_rfl
theorem yby133:tBytes Try.prog 133=some 8:=by kernel_rfl
theorem yz133:tZero Try.prog 133=some (.pointer none):=by kernel_rfl
theorem ypt133:tPtr Try.prog 133=some 135:=by kernel_rfl
theorem ya134:tAgg Try.prog 134=some true:=by kernel_rfl
theorem ys134:tSize Try.prog 134=some 3:=by kernel_rfl
theorem yby134:tBytes Try.prog 134=some 40:=by kernel_rfl
theorem yz134:tZero Try.prog 134=some (.agg #[.slice none 0 0,.int .i64 0,.int .i64 0]):=by kernel_rfl
theorem yf134_0:tField Try.prog 134 0=some (0,80):=by kernel_rfl
theorem yf134_1:tField Try.prog 134 1=some (1,3):=by kernel_rfl
theorem yf134_2:tField Try.prog 134 2=some (2,3):=by kernel_rfl
theorem yp134:tPlaces Try.prog 134=some [(0,1),(1,1),(2,1)]:=by kernel_rfl
theorem ya135:tAgg Try.prog 135=some true:=by kernel_rfl
theorem ys135:tSize Try.prog 135=some 3:=by kernel_rfl
theorem yby135:tBytes Try.prog 135=some 40:=by kernel_rfl
theorem yz135:tZero Try.prog 135=some (.agg #[.slice none 0 0,.int .i64 0,.int .i64 0]):=by kernel_rfl
theorem yc135:tConc Try.prog 135=true:=by kernel_rfl
theorem yf135_0:tField Try.prog 135 0=some (0,80):=by kernel_rfl
theorem yf135_1:tField Try.prog 135 1=some (1,3):=by kernel_rfl
theorem yf135_2:tField Try.prog 135 2=some (2,3):=by kernel_rfl
theorem yp135:tPlaces Try.prog 135=some [(0,1),(1,1),(2,1)]:=by kernel_rfl
theorem ya138:tAgg Try.prog 138=some true:=by kernel_rfl
theorem ys138:tSize Try.prog 138=some 0:=by kernel_rfl
theorem yby138:tBytes Try.prog 138=some 0:=by kernel_rfl
theorem yz138:tZero Try.prog 138=some (.agg #[]):=by kernel_rfl
theorem yp138:tPlaces Try.prog 138=some []:=by kernel_rfl
theorem ya139:tAgg Try.prog 139=some true:=by kernel_rfl
theorem ys139:tSize Try.prog 139=some 0:=by kernel_rfl
theorem yby139:tBytes Try.prog 139=some 0:=by kernel_rfl
theorem yz139:tZero Try.prog 139=some (.agg #[]):=by kernel_rfl
theorem yc139:tConc Try.prog 139=true:=by kernel_rfl
theorem yp139:tPlaces Try.prog 139=some []:=by kernel_rfl
theorem ya140:tAgg Try.prog 140=some false:=by kernel_rfl
theorem ys140:tSize Try.prog 140=some 1:=by kernel_rfl
theorem yby140:tBytes Try.prog 140=some 8:=by kernel_rfl
theorem yz140:tZero Try.prog 140=some (.pointer none):=by kernel_rfl
theorem ypt140:tPtr Try.prog 140=some 143:=by kernel_rfl
theorem ya141:tAgg Try.prog 141=some false:=by kernel_rfl
theorem ys141:tSize Try.prog 141=some 1:=by kernel_rfl
theorem yby141:tBytes Try.prog 141=some 8:=by kernel_rfl
theorem yz141:tZero Try.prog 141=some (.map none):=by kernel_rfl
theorem ymp141:tMap Try.prog 141=some (9,58):=by kernel_rfl
theorem ya142:tAgg Try.prog 142=some true:=by kernel_rfl
theorem ys142:tSize Try.prog 142=some 4:=by kernel_rfl
theorem yby142:tBytes Try.prog 142=some 40:=by kernel_rfl
theorem yz142:tZero Try.prog 142=some (.agg #[.pointer none,.string ByteArray.empty,.map none,.int .i64 0]):=by kernel_rfl
theorem yf142_0:tField Try.prog 142 0=some (0,88):=by kernel_rfl
theorem yf142_1:tField Try.prog 142 1=some (1,9):=by kernel_rfl
theorem yf142_2:tField Try.prog 142 2=some (2,141):=by kernel_rfl
theorem yf142_3:tField Try.prog 142 3=some (3,2):=by kernel_rfl
theorem yp142:tPlaces Try.prog 142=some [(0,1),(1,1),(2,1),(3,1)]:=by kernel_rfl
theorem ya143:tAgg Try.prog 143=some true:=by kernel_rfl
theorem ys143:tSize Try.prog 143=some 4:=by kernel_rfl
theorem yby143:tBytes Try.prog 143=some 40:=by kernel_rfl
theorem yz143:tZero Try.prog 143=some (.agg #[.pointer none,.string ByteArray.empty,.map none,.int .i64 0]):=by kernel_rfl
theorem yc143:tConc Try.prog 143=true:=by kernel_rfl
theorem yf143_0:tField Try.prog 143 0=some (0,88):=by kernel_rfl
theorem yf143_1:tField Try.prog 143 1=some (1,9):=by kernel_rfl
theorem yf143_2:tField Try.prog 143 2=some (2,141):=by kernel_rfl
theorem yf143_3:tField Try.prog 143 3=some (3,2):=by kernel_rfl
theorem yp143:tPlaces Try.prog 143=some [(0,1),(1,1),(2,1),(3,1)]:=by kernel_rfl
theorem ya146:tAgg Try.prog 146=some false:=by kernel_rfl
theorem ys146:tSize Try.prog 146=some 1:=by kernel_rfl
theorem yby146:tBytes Try.prog 146=some 8:=by kernel_rfl
theorem yz146:tZero Try.prog 146=some (.int .u64 0):=by kernel_rfl
theorem yi146:tInt Try.prog 146=some .u64:=by kernel_rfl
theorem ya148:tAgg Try.prog 148=some false:=by kernel_rfl
theorem ys148:tSize Try.prog 148=some 1:=by kernel_rfl
theorem yby148:tBytes Try.prog 148=some 8:=by kernel_rfl
theorem yz148:tZero Try.prog 148=some (.pointer none):=by kernel_rfl
theorem ypt148:tPtr Try.prog 148=some 165:=by kernel_rfl
theorem ya149:tAgg Try.prog 149=some false:=by kernel_rfl
theorem ys149:tSize Try.prog 149=some 1:=by kernel_rfl
theorem yby149:tBytes Try.prog 149=some 8:=by kernel_rfl
theorem yz149:tZero Try.prog 149=some (.pointer none):=by kernel_rfl
theorem ypt149:tPtr Try.prog 149=some 178:=by kernel_rfl
theorem ya150:tAgg Try.prog 150=some false:=by kernel_rfl
theorem ys150:tSize Try.prog 150=some 1:=by kernel_rfl
theorem yby150:tBytes Try.prog 150=some 24:=by kernel_rfl
theorem yz150:tZero Try.prog 150=some (.slice none 0 0):=by kernel_rfl
theorem ye150:tElem Try.prog 150=some 167:=by kernel_rfl
theorem ya151:tAgg Try.prog 151=some true:=by kernel_rfl
theorem ys151:tSize Try.prog 151=some 10:=by kernel_rfl
theorem yby151:tBytes Try.prog 151=some 144:=by kernel_rfl
theorem yz151:tZero Try.prog 151=some (.agg #[.int .i64 0,.string ByteArray.empty,.string ByteArray.empty,.pointer none,.pointer none,.pointer none,.slice none 0 0,.slice none 0 0,.slice none 0 0,.int .i64 0]):=by kernel_rfl
theorem yf151_0:tField Try.prog 151 0=some (0,3):=by kernel_rfl
theorem yf151_1:tField Try.prog 151 1=some (1,9):=by kernel_rfl
theorem yf151_2:tField Try.prog 151 2=some (2,9):=by kernel_rfl
theorem yf151_3:tField Try.prog 151 3=some (3,148):=by kernel_rfl
theorem yf151_4:tField Try.prog 151 4=some (4,148):=by kernel_rfl
theorem yf151_5:tField Try.prog 151 5=some (5,149):=by kernel_rfl
theorem yf151_6:tField Try.prog 151 6=some (6,150):=by kernel_rfl
theorem yf151_7:tField Try.prog 151 7=some (7,83):=by kernel_rfl
theorem yf151_8:tField Try.prog 151 8=some (8,83):=by kernel_rfl
theorem yf151_9:tField Try.prog 151 9=some (9,3):=by kernel_rfl
theorem yp151:tPlaces Try.prog 151=some [(0,1),(1,1),(2,1),(3,1),(4,1),(5,1),(6,1),(7,1),(8,1),(9,1)]:=by kernel_rfl
theorem ya152:tAgg Try.prog 152=some true:=by kernel_rfl
theorem ys152:tSize Try.prog 152=some 10:=by kernel_rfl
theorem yby152:tBytes Try.prog 152=some 144:=by kernel_rfl
theorem yz152:tZero Try.prog 152=some (.agg #[.int .i64 0,.string ByteArray.empty,.string ByteArray.empty,.pointer none,.pointer none,.pointer none,.slice none 0 0,.slice none 0 0,.slice none 0 0,.int .i64 0]):=by kernel_rfl
theorem yc152:tConc Try.prog 152=true:=by kernel_rfl
theorem yf152_0:tField Try.prog 152 0=some (0,3):=by kernel_rfl
theorem yf152_1:tField Try.prog 152 1=some (1,9):=by kernel_rfl
theorem yf152_2:tField Try.prog 152 2=some (2,9):=by kernel_rfl
theorem yf152_3:tField Try.prog 152 3=some (3,148):=by kernel_rfl
theorem yf152_4:tField Try.prog 152 4=some (4,148):=by kernel_rfl
theorem yf152_5:tField Try.prog 152 5=some (5,149):=by kernel_rfl
theorem yf152_6:tField Try.prog 152 6=some (6,150):=by kernel_rfl
theorem yf152_7:tField Try.prog 152 7=some (7,83):=by kernel_rfl
theorem yf152_8:tField Try.prog 152 8=some (8,83):=by kernel_rfl
theorem yf152_9:tField Try.prog 152 9=some (9,3):=by kernel_rfl
theorem yp152:tPlaces Try.prog 152=some [(0,1),(1,1),(2,1),(3,1),(4,1),(5,1),(6,1),(7,1),(8,1),(9,1)]:=by kernel_rfl
theorem ya157:tAgg Try.prog 157=some false:=by kernel_rfl
theorem ys157:tSize Try.prog 157=some 1:=by kernel_rfl
theorem yby157:tBytes Try.prog 157=some 8:=by kernel_rfl
theorem yz157:tZero Try.prog 157=some (.pointer none):=by kernel_rfl
theorem ypt157:tPtr Try.prog 157=some 152:=by kernel_rfl
theorem ya164:tAgg Try.prog 164=some true:=by kernel_rfl
theorem ys164:tSize Try.prog 164=some 5:=by kernel_rfl
theorem yby164:tBytes Try.prog 164=some 48:=by kernel_rfl
theorem yz164:tZero Try.prog 164=some (.agg #[.int .i64 0,.int .i64 0,.string ByteArray.empty,.pointer none,.pointer none]):=by kernel_rfl
theorem yf164_0:tField Try.prog 164 0=some (0,3):=by kernel_rfl
theorem yf164_1:tField Try.prog 164 1=some (1,2):=by kernel_rfl
theorem yf164_2:tField Try.prog 164 2=some (2,9):=by kernel_rfl
theorem yf164_3:tField Try.prog 164 3=some (3,148):=by kernel_rfl
theorem yf164_4:tField Try.prog 164 4=some (4,148):=by kernel_rfl
theorem yp164:tPlaces Try.prog 164=some [(0,1),(1,1),(2,1),(3,1),(4,1)]:=by kernel_rfl
theorem ya165:tAgg Try.prog 165=some true:=by kernel_rfl
theorem ys165:tSize Try.prog 165=some 5:=by kernel_rfl
theorem yby165:tBytes Try.prog 165=some 48:=by kernel_rfl
theorem yz165:tZero Try.prog 165=some (.agg #[.int .i64 0,.int .i64 0,.string ByteArray.empty,.pointer none,.pointer none]):=by kernel_rfl
theorem yc165:tConc Try.prog 165=true:=by kernel_rfl
theorem yf165_0:tField Try.prog 165 0=some (0,3):=by kernel_rfl
theorem yf165_1:tField Try.prog 165 1=some (1,2):=by kernel_rfl
theorem yf165_2:tField Try.prog 165 2=some (2,9):=by kernel_rfl
theorem yf165_3:tField Try.prog 165 3=some (3,148):=by kernel_rfl
theorem yf165_4:tField Try.prog 165 4=some (4,148):=by kernel_rfl
theorem yp165:tPlaces Try.prog 165=some [(0,1),(1,1),(2,1),(3,1),(4,1)]:=by kernel_rfl
theorem ya166:tAgg Try.prog 166=some true:=by kernel_rfl
theorem ys166:tSize Try.prog 166=some 3:=by kernel_rfl
theorem yby166:tBytes Try.prog 166=some 32:=by kernel_rfl
theorem yz166:tZero Try.prog 166=some (.agg #[.bool false,.string ByteArray.empty,.pointer none]):=by kernel_rfl
theorem yf166_0:tField Try.prog 166 0=some (0,4):=by kernel_rfl
theorem yf166_1:tField Try.prog 166 1=some (1,9):=by kernel_rfl
theorem yf166_2:tField Try.prog 166 2=some (2,148):=by kernel_rfl
theorem yp166:tPlaces Try.prog 166=some [(0,1),(1,1),(2,1)]:=by kernel_rfl
theorem ya167:tAgg Try.prog 167=some true:=by kernel_rfl
theorem ys167:tSize Try.prog 167=some 3:=by kernel_rfl
theorem yby167:tBytes Try.prog 167=some 32:=by kernel_rfl
theorem yz167:tZero Try.prog 167=some (.agg #[.bool false,.string ByteArray.empty,.pointer none]):=by kernel_rfl
theorem yc167:tConc Try.prog 167=true:=by kernel_rfl
theorem yf167_0:tField Try.prog 167 0=some (0,4):=by kernel_rfl
theorem yf167_1:tField Try.prog 167 1=some (1,9):=by kernel_rfl
theorem yf167_2:tField Try.prog 167 2=some (2,148):=by kernel_rfl
theorem yp167:tPlaces Try.prog 167=some [(0,1),(1,1),(2,1)]:=by kernel_rfl
theorem ya172:tAgg Try.prog 172=some false:=by kernel_rfl
theorem ys172:tSize Try.prog 172=some 1:=by kernel_rfl
theorem yby172:tBytes Try.prog 172=some 8:=by kernel_rfl
theorem yz172:tZero Try.prog 172=some (.pointer none):=by kernel_rfl
theorem ypt172:tPtr Try.prog 172=some 52:=by kernel_rfl
theorem ya174:tAgg Try.prog 174=some false:=by kernel_rfl
theorem ys174:tSize Try.prog 174=some 1:=by kernel_rfl
theorem yby174:tBytes Try.prog 174=some 8:=by kernel_rfl
theorem yz174:tZero Try.prog 174=some (.pointer none):=by kernel_rfl
theorem ypt174:tPtr Try.prog 174=some 2:=by kernel_rfl
theorem ya177:tAgg Try.prog 177=some true:=by kernel_rfl
theorem ys177:tSize Try.prog 177=some 6:=by kernel_rfl
theorem yby177:tBytes Try.prog 177=some 56:=by kernel_rfl
theorem yz177:tZero Try.prog 177=some (.agg #[.int .i64 0,.pointer none,.pointer none,.pointer none,.pointer none,.string ByteArray.empty]):=by kernel_rfl
theorem yf177_0:tField Try.prog 177 0=some (0,3):=by kernel_rfl
theorem yf177_1:tField Try.prog 177 1=some (1,148):=by kernel_rfl
theorem yf177_2:tField Try.prog 177 2=some (2,148):=by kernel_rfl
theorem yf177_3:tField Try.prog 177 3=some (3,149):=by kernel_rfl
theorem yf177_4:tField Try.prog 177 4=some (4,149):=by kernel_rfl
theorem yf177_5:tField Try.prog 177 5=some (5,9):=by kernel_rfl
theorem yp177:tPlaces Try.prog 177=some [(0,1),(1,1),(2,1),(3,1),(4,1),(5,1)]:=by kernel_rfl
theorem ya178:tAgg Try.prog 178=some true:=by kernel_rfl
theorem ys178:tSize Try.prog 178=some 6:=by kernel_rfl
theorem yby178:tBytes Try.prog 178=some 56:=by kernel_rfl
theorem yz178:tZero Try.prog 178=some (.agg #[.int .i64 0,.pointer none,.pointer none,.pointer none,.pointer none,.string ByteArray.empty]):=by kernel_rfl
theorem yc178:tConc Try.prog 178=true:=by kernel_rfl
theorem yf178_0:tField Try.prog 178 0=some (0,3):=by kernel_rfl
theorem yf178_1:tField Try.prog 178 1=some (1,148):=by kernel_rfl
theorem yf178_2:tField Try.prog 178 2=some (2,148):=by kernel_rfl
theorem yf178_3:tField Try.prog 178 3=some (3,149):=by kernel_rfl
theorem yf178_4:tField Try.prog 178 4=some (4,149):=by kernel_rfl
theorem yf178_5:tField Try.prog 178 5=some (5,9):=by kernel_rfl
theorem yp178:tPlaces Try.prog 178=some [(0,1),(1,1),(2,1),(3,1),(4,1),(5,1)]:=by kernel_rfl
theorem yf181_0:tField Try.prog 181 0=some (0,17):=by kernel_rfl
theorem yf181_1:tField Try.prog 181 1=some (1,17):=by kernel_rfl
theorem yf181_2:tField Try.prog 181 2=some (2,17):=by kernel_rfl
theorem yf181_3:tField Try.prog 181 3=some (3,9):=by kernel_rfl
theorem yf184_0:tField Try.prog 184 0=some (0,183):=by kernel_rfl
theorem yf194_0:tField Try.prog 194 0=some (0,12):=by kernel_rfl
theorem yf194_1:tField Try.prog 194 1=some (1,12):=by kernel_rfl
theorem yf194_2:tField Try.prog 194 2=some (2,187):=by kernel_rfl
theorem yf194_3:tField Try.prog 194 3=some (3,188):=by kernel_rfl
theorem yf194_4:tField Try.prog 194 4=some (4,5):=by kernel_rfl
theorem yf194_5:tField Try.prog 194 5=some (5,5):=by kernel_rfl
theorem yf194_6:tField Try.prog 194 6=some (6,189):=by kernel_rfl
theorem yf194_7:tField Try.prog 194 7=some (7,190):=by kernel_rfl
theorem yf194_8:tField Try.prog 194 8=some (8,191):=by kernel_rfl
theorem yf194_9:tField Try.prog 194 9=some (9,192):=by kernel_rfl
theorem yf194_10:tField Try.prog 194 10=some (10,193):=by kernel_rfl
end Go.Proofs.Ytjnnmindcbgjhaa
