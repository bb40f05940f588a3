/- Closed facts on the types of the program, for the second executor. No conditions. -/
import Derived.Test.YtapedeoheilnnaaGreatSyB
import Derived.Test.YtapedeoheilnnaaGreatRows
import Derived.KernelRfl
import Derived.Test.YtapedeoheilnnaaGreatOp
set_option linter.all false
open List (mem_singleton)
namespace Go.Proofs.YtapedeoheilnnaaGreat
open Go Go.Sy
variable{b:Bool}
theorem ya2:Cw Tryz.prog 2=some false∧Aq Tryz.prog 2=some 1∧GY Tryz.prog 2=some 8∧D6 Tryz.prog 2=some (.int .i64 0)∧PX Tryz.prog 2=some .i64∧Cw Tryz.prog 3=some false∧Aq Tryz.prog 3=some 1∧D6 Tryz.prog 3=some (.int .i64 0)∧PX Tryz.prog 3=some .i64∧Cw Tryz.prog 4=some false∧Aq Tryz.prog 4=some 1∧Tryz.prog.underlying 4=some .bool∧Cw Tryz.prog 5=some false∧Aq Tryz.prog 5=some 1∧PX Tryz.prog 5=some .u8∧Cw Tryz.prog 9=some false∧Aq Tryz.prog 9=some 1∧GY Tryz.prog 9=some 16∧D6 Tryz.prog 9=some (.string ByteArray.empty)∧Mu Tryz.prog 9=true∧DU Tryz.prog 22=some 70∧Cw Tryz.prog 23=some false∧Aq Tryz.prog 23=some 1∧DU Tryz.prog 23=some 2∧Cw Tryz.prog 24=some false∧Aq Tryz.prog 24=some 1∧DU Tryz.prog 24=some 69∧Cw Tryz.prog 25=some false∧Aq Tryz.prog 25=some 1∧DU Tryz.prog 25=some 72∧Cw Tryz.prog 27=some true∧Aq Tryz.prog 27=some 2∧D6 Tryz.prog 27=some (.agg #[.slice none 0 0,.slice none 0 0])∧AA Tryz.prog 27 0=some (0,24)∧AA Tryz.prog 27 1=some (1,25)∧Dp Tryz.prog 27=some [(0,1),(1,1)]∧Cw Tryz.prog 31=some false∧Aq Tryz.prog 31=some 1∧DU Tryz.prog 31=some 9∧Cw Tryz.prog 32=some false:=by and_intros<;>kernel_rfl
theorem A8U:Aq Tryz.prog 32=some 1∧DU Tryz.prog 32=some 84∧Cw Tryz.prog 34=some true∧Aq Tryz.prog 34=some 2∧D6 Tryz.prog 34=some (.agg #[.slice none 0 0,.slice none 0 0])∧AA Tryz.prog 34 0=some (0,31)∧AA Tryz.prog 34 1=some (1,32)∧Cw Tryz.prog 35=some false∧Aq Tryz.prog 35=some 1∧DU Tryz.prog 35=some 77∧Cw Tryz.prog 37=some true∧Aq Tryz.prog 37=some 3∧D6 Tryz.prog 37=some (.agg #[.slice none 0 0,.slice none 0 0,.slice none 0 0])∧AA Tryz.prog 37 0=some (0,34)∧AA Tryz.prog 37 1=some (2,35)∧DU Tryz.prog 41=some 67∧Cw Tryz.prog 45=some true∧Aq Tryz.prog 45=some 2∧D6 Tryz.prog 45=some (.agg #[.int .i64 0,.int .i64 0])∧AA Tryz.prog 45 0=some (0,3)∧AA Tryz.prog 45 1=some (1,3)∧Dp Tryz.prog 45=some [(0,1),(1,1)]∧tEq Tryz.prog 45=some [(0,.i),(1,.i)]∧Cw Tryz.prog 47=some true∧Aq Tryz.prog 47=some 7∧D6 Tryz.prog 47=some (.agg #[.int .i64 0,.int .i64 0,.string ByteArray.empty,.int .i64 0,.int .i64 0,.slice none 0 0,.slice none 0 0])∧AA Tryz.prog 47 0=some (0,3)∧AA Tryz.prog 47 1=some (1,2)∧AA Tryz.prog 47 2=some (2,9)∧AA Tryz.prog 47 3=some (3,45)∧AA Tryz.prog 47 4=some (5,27)∧Dp Tryz.prog 47=some [(0,1),(1,1),(2,1),(3,2),(5,2)]∧Aq Tryz.prog 64=some 2∧GY Tryz.prog 64=some 32∧D6 Tryz.prog 64=some (.agg #[.string ByteArray.empty,.string ByteArray.empty])∧AA Tryz.prog 64 0=some (0,9)∧AA Tryz.prog 64 1=some (1,9)∧Dp Tryz.prog 64=some [(0,1),(1,1)]∧DU Tryz.prog 65=some 64∧Cw Tryz.prog 67=some true:=by and_intros<;>kernel_rfl
theorem A8u:Aq Tryz.prog 67=some 3∧GY Tryz.prog 67=some 32∧D6 Tryz.prog 67=some (.agg #[.bool false,.int .i64 0,.string ByteArray.empty])∧AA Tryz.prog 67 0=some (0,4)∧AA Tryz.prog 67 1=some (1,2)∧AA Tryz.prog 67 2=some (2,9)∧Dp Tryz.prog 67=some [(0,1),(1,1),(2,1)]∧Cw Tryz.prog 69=some true∧Aq Tryz.prog 69=some 2∧GY Tryz.prog 69=some 24∧D6 Tryz.prog 69=some (.agg #[.string ByteArray.empty,.int .i64 0])∧AA Tryz.prog 69 0=some (0,9)∧AA Tryz.prog 69 1=some (1,2)∧Dp Tryz.prog 69=some [(0,1),(1,1)]∧tEq Tryz.prog 69=some [(0,.s),(1,.i)]∧Cw Tryz.prog 70=some false∧Aq Tryz.prog 70=some 1∧DU Tryz.prog 70=some 5∧Cw Tryz.prog 72=some true∧Aq Tryz.prog 72=some 2∧GY Tryz.prog 72=some 40∧D6 Tryz.prog 72=some (.agg #[.string ByteArray.empty,.slice none 0 0])∧AA Tryz.prog 72 0=some (0,9)∧AA Tryz.prog 72 1=some (1,23)∧Dp Tryz.prog 72=some [(0,1),(1,1)]∧Cw Tryz.prog 74=some false∧Aq Tryz.prog 74=some 1∧DU Tryz.prog 74=some 79∧Cw Tryz.prog 75=some false∧Aq Tryz.prog 75=some 1∧DU Tryz.prog 75=some 154∧Cw Tryz.prog 77=some true∧Aq Tryz.prog 77=some 4∧GY Tryz.prog 77=some 88∧D6 Tryz.prog 77=some (.agg #[.string ByteArray.empty,.slice none 0 0,.slice none 0 0,.slice none 0 0])∧AA Tryz.prog 77 0=some (0,9)∧AA Tryz.prog 77 1=some (1,74)∧AA Tryz.prog 77 2=some (2,74)∧AA Tryz.prog 77 3=some (3,75)∧Dp Tryz.prog 77=some [(0,1),(1,1),(2,1),(3,1)]:=by and_intros<;>kernel_rfl
theorem A9J:Cw Tryz.prog 79=some true∧Aq Tryz.prog 79=some 2∧GY Tryz.prog 79=some 24∧D6 Tryz.prog 79=some (.agg #[.string ByteArray.empty,.bool false])∧AA Tryz.prog 79 0=some (0,9)∧AA Tryz.prog 79 1=some (1,4)∧Dp Tryz.prog 79=some [(0,1),(1,1)]∧Cw Tryz.prog 80=some false∧Aq Tryz.prog 80=some 1∧Cw Tryz.prog 81=some false∧Aq Tryz.prog 81=some 1∧RP Tryz.prog 81=some (9,3)∧Cw Tryz.prog 84=some true∧Aq Tryz.prog 84=some 2∧GY Tryz.prog 84=some 24∧D6 Tryz.prog 84=some (.agg #[.string ByteArray.empty,.int .i64 0])∧AA Tryz.prog 84 0=some (0,9)∧AA Tryz.prog 84 1=some (1,3)∧Dp Tryz.prog 84=some [(0,1),(1,1)]∧D6 Tryz.prog 86=some (.agg #[.slice none 0 0,.slice none 0 0,.slice none 0 0,.int .i64 0,.int .i64 0,.map none,.map none,.map none,.slice none 0 0,.slice none 0 0,.int .i64 0,.int .i64 0,.string ByteArray.empty,.int .i64 0,.int .i64 0,.slice none 0 0,.slice none 0 0])∧AA Tryz.prog 86 0=some (0,37)∧AA Tryz.prog 86 1=some (3,3)∧AA Tryz.prog 86 2=some (4,3)∧AA Tryz.prog 86 3=some (5,81)∧AA Tryz.prog 86 4=some (6,81)∧AA Tryz.prog 86 5=some (7,81)∧AA Tryz.prog 86 6=some (8,27)∧AA Tryz.prog 86 7=some (10,47)∧Dp Tryz.prog 86=some [(0,3),(3,1),(4,1),(5,1),(6,1),(7,1),(8,2),(10,7)]∧D6 Tryz.prog 90=some (.agg #[.slice none 0 0,.slice none 0 0,.slice none 0 0,.slice none 0 0,.slice none 0 0,.int .i64 0,.int .i64 0,.int .i64 0,.int .i64 0,.string ByteArray.empty,.int .i64 0,.int .i64 0])∧AA Tryz.prog 90 0=some (0,37)∧AA Tryz.prog 90 1=some (3,27)∧AA Tryz.prog 90 2=some (5,3)∧AA Tryz.prog 90 3=some (6,3)∧AA Tryz.prog 90 4=some (7,3)∧AA Tryz.prog 90 5=some (8,2)∧AA Tryz.prog 90 6=some (9,9)∧AA Tryz.prog 90 7=some (10,45)∧Dp Tryz.prog 90=some [(0,3),(3,2),(5,1),(6,1),(7,1),(8,1),(9,1),(10,2)]∧Cw Tryz.prog 113=some false:=by and_intros<;>kernel_rfl
theorem A5g:Aq Tryz.prog 113=some 1∧RP Tryz.prog 113=some (9,2)∧Cw Tryz.prog 114=some false∧Aq Tryz.prog 114=some 1∧RP Tryz.prog 114=some (9,9)∧D6 Tryz.prog 116=some (.agg #[.string ByteArray.empty,.slice none 0 0,.slice none 0 0,.slice none 0 0,.map none,.map none])∧AA Tryz.prog 116 0=some (0,77)∧AA Tryz.prog 116 1=some (4,113)∧AA Tryz.prog 116 2=some (5,114)∧Dp Tryz.prog 116=some [(0,4),(4,1),(5,1)]∧Cw Tryz.prog 120=some false∧Aq Tryz.prog 120=some 1∧DU Tryz.prog 120=some 131∧D6 Tryz.prog 125=some (.agg #[.slice none 0 0,.int .i64 0,.int .i64 0,.int .i64 0,.int .i64 0,.int .i64 0,.int .i64 0])∧AA Tryz.prog 125 0=some (0,120)∧AA Tryz.prog 125 1=some (1,3)∧AA Tryz.prog 125 2=some (2,3)∧AA Tryz.prog 125 3=some (3,3)∧AA Tryz.prog 125 4=some (4,3)∧AA Tryz.prog 125 5=some (5,3)∧AA Tryz.prog 125 6=some (6,3)∧Dp Tryz.prog 125=some [(0,1),(1,1),(2,1),(3,1),(4,1),(5,1),(6,1)]∧Aq Tryz.prog 131=some 3∧GY Tryz.prog 131=some 32∧D6 Tryz.prog 131=some (.agg #[.int .i64 0,.string ByteArray.empty,.int .i64 0])∧AA Tryz.prog 131 0=some (0,3)∧AA Tryz.prog 131 1=some (1,9)∧AA Tryz.prog 131 2=some (2,3)∧Dp Tryz.prog 131=some [(0,1),(1,1),(2,1)]∧D6 Tryz.prog 139=some (.agg #[.slice none 0 0,.int .i64 0,.int .i64 0])∧AA Tryz.prog 139 0=some (0,70)∧AA Tryz.prog 139 1=some (1,3)∧AA Tryz.prog 139 2=some (2,3)∧Dp Tryz.prog 139=some [(0,1),(1,1),(2,1)]∧D6 Tryz.prog 143=some (.agg #[])∧rR Tryz.prog 143=true∧Dp Tryz.prog 143=some []∧Cw Tryz.prog 145=some false∧Aq Tryz.prog 145=some 1∧RP Tryz.prog 145=some (9,67):=by and_intros<;>kernel_rfl
theorem A60:D6 Tryz.prog 147=some (.agg #[.pointer none,.string ByteArray.empty,.map none,.int .i64 0])∧AA Tryz.prog 147 0=some (0,80)∧AA Tryz.prog 147 1=some (1,9)∧AA Tryz.prog 147 2=some (2,145)∧AA Tryz.prog 147 3=some (3,2)∧Dp Tryz.prog 147=some [(0,1),(1,1),(2,1),(3,1)]∧Cw Tryz.prog 150=some false∧Aq Tryz.prog 150=some 1∧tPtr Tryz.prog 150=some 177∧Cw Tryz.prog 151=some false∧Aq Tryz.prog 151=some 1∧tPtr Tryz.prog 151=some 190∧Cw Tryz.prog 152=some false∧Aq Tryz.prog 152=some 1∧DU Tryz.prog 152=some 179∧Cw Tryz.prog 154=some true∧Aq Tryz.prog 154=some 10∧GY Tryz.prog 154=some 144∧D6 Tryz.prog 154=some (.agg #[.int .i64 0,.string ByteArray.empty,.string ByteArray.empty,.pointer none,.pointer none,.pointer none,.slice none 0 0,.slice none 0 0,.slice none 0 0,.int .i64 0])∧AA Tryz.prog 154 0=some (0,3)∧AA Tryz.prog 154 1=some (1,9)∧AA Tryz.prog 154 2=some (2,9)∧AA Tryz.prog 154 3=some (3,150)∧AA Tryz.prog 154 4=some (4,150)∧AA Tryz.prog 154 5=some (5,151)∧AA Tryz.prog 154 6=some (6,152)∧AA Tryz.prog 154 7=some (7,75)∧AA Tryz.prog 154 8=some (8,75)∧AA Tryz.prog 154 9=some (9,3)∧Dp Tryz.prog 154=some [(0,1),(1,1),(2,1),(3,1),(4,1),(5,1),(6,1),(7,1),(8,1),(9,1)]∧PX Tryz.prog 156=some .u64∧D6 Tryz.prog 177=some (.agg #[.int .i64 0,.int .i64 0,.string ByteArray.empty,.pointer none,.pointer none])∧AA Tryz.prog 177 0=some (0,3)∧AA Tryz.prog 177 1=some (1,2)∧AA Tryz.prog 177 2=some (2,9)∧AA Tryz.prog 177 3=some (3,150)∧AA Tryz.prog 177 4=some (4,150)∧Dp Tryz.prog 177=some [(0,1),(1,1),(2,1),(3,1),(4,1)]∧Cw Tryz.prog 179=some true∧Aq Tryz.prog 179=some 3:=by and_intros<;>kernel_rfl
theorem A1u:GY Tryz.prog 179=some 32∧D6 Tryz.prog 179=some (.agg #[.bool false,.string ByteArray.empty,.pointer none])∧AA Tryz.prog 179 0=some (0,4)∧AA Tryz.prog 179 1=some (1,9)∧AA Tryz.prog 179 2=some (2,150)∧Dp Tryz.prog 179=some [(0,1),(1,1),(2,1)]∧D6 Tryz.prog 190=some (.agg #[.int .i64 0,.pointer none,.pointer none,.pointer none,.pointer none,.string ByteArray.empty])∧AA Tryz.prog 190 0=some (0,3)∧AA Tryz.prog 190 1=some (1,150)∧AA Tryz.prog 190 2=some (2,150)∧AA Tryz.prog 190 3=some (3,151)∧AA Tryz.prog 190 4=some (4,151)∧AA Tryz.prog 190 5=some (5,9)∧Dp Tryz.prog 190=some [(0,1),(1,1),(2,1),(3,1),(4,1),(5,1)]:=by and_intros<;>kernel_rfl
open Go Go.Sy Go.RowKit
def eB:=And.intro @e_nil (And.intro @e_cons (And.intro @e_text (And.intro @e_draw (And.intro @e_seq (And.intro @e_block (And.intro @e_then1 (And.intro @e_then2 (And.intro @e_then3 (And.intro @e_in1 (And.intro @e_in2 (And.intro @e_in3 (And.intro @e_nrmK (And.intro @e_textT (And.intro @e_drawK (And.intro @e_fac0 (And.intro @e_fac1 (And.intro @e_fac2 (And.intro @e_fac3 (And.intro @e_seqK (And.intro @e_ret (And.intro @e_skip (And.intro @e_label (And.intro @e_exit (And.intro @e_cond (And.intro @e_loop (And.intro @e_impBt (And.intro @e_impBf (And.intro @e_impNt @e_impNf))))))))))))))))))))))))))))
attribute[go_sem ↓] eB
theorem A1v{r0:List C}(h:r0.all C.stor=true):∀r∈[r0],∀c∈r,C.stor c=true:=by
 intro r h1 c h2
 rw[mem_singleton]at h1
 subst h1
 exact List.all_eq_true.1 h c h2
attribute [go_sem] A0q A0r A0t A86 w7 w8 w9 A87 pb A0v Y1 wA JE J7 opG guarded slotOf V4 ZV guardOf opS fresh rV LQ Qe Qg Tw Nn RV U1 bC flB JD I5 Ix LR Jv RQ ptrA Ft Np Fv Nq boI Jw Ky L0 Jx Ns Mb Ie lkV RR ZT ol Ee Jy PC Tz K1 om LV A55 pnN wkL wkR A0V Ty Et inP He A7T A7U A3p A7V A3q A3r A7W yh Sc Tx unV Xp gR N7 Uv Jf KC Ib LU HQ Im K0 fnSV U0 reads KO GN FS Ia HO HP setAll Kc Mv Uu tgN A4r A4s A4t A7v A7w A7x A4u A4v A4w A7y A7z A80 A4x A4y A4z A0R A0S A81 A82 A83 A0T A0U A50 A51 A52 A53 A54 ldc ldV yi A7X A7Y A7Z A7a A3s A3t A3u A3v A7b A3w clL OU A7O A3i A3j A3k Xo eqL eqC og arI gQ rdv rdg okV lkp St.app ba pL ofV SV.tupB SV.cells yZ A6z A70 A71 A72 A3J A3K A3L A3M A73 A3N C.flat H6 LY Sr F0 NA toP updH capN List.getElem?_nil A4q IB A0z A10 iB wC pj pi A5H A5I A5J A5K hY iA Y3 Y4 Ph ndB updM Rh Pi yd A79 A7A A7B A7C A3T A3U A3V A3W A7D A3X nmM chO GE memO A5L A5M A5N A5O A5P A5Q A5R A5S A5T A5U A5V A5W Nat.sub_zero MI MJ vz pW wD po wB pd hX A5E A5D A5G A5F gz A0w A0x A5B A5C slR slD Re V9 toD GD EZ List.length_map Int.toNat_natCast Int.natCast_nonneg A59 A58 FV FU gy lN vx pU vy pV gv ZW km gP Option.map_some Option.getD_some Option.getD_none Option.map_none Option.bind_some List.all_cons List.all_nil Bool.and_true Bool.true_and Bool.and_self Bool.not_not true_and and_true and_self true_or or_true forall_const true_implies imp_self implies_true List.getElem?_cons_zero List.getElem?_cons_succ List.getElem?_toArray List.length_cons List.length_nil List.map_cons List.map_nil List.set_cons_zero List.set_cons_succ List.length_set List.drop_zero List.drop_succ_cons List.take_succ_cons List.take_zero List.getD_cons_zero List.getD_cons_succ ne_eq not_false_eq_true Nat.le_refl Int.toNat_zero Nat.zero_mul Nat.zero_add Nat.add_zero Nat.one_mul jB Bool.not_false Bool.not_true Bool.or_false Bool.false_or Bool.or_true Bool.true_or Bool.and_false Bool.false_and Bool.not_eq_false' Bool.not_eq_true' Bool.or_self wrap_i64 Int.natCast_zero Int.natCast_one Int.cast_ofNat_Int Int.lt_irrefl decide_false decide_true Nat.lt_irrefl Nat.lt_add_one Int.toNat_one List.take_nil List.drop_nil List.flatMap_cons List.flatMap_nil List.append_nil List.nil_append List.cons_append List.append_eq List.any_nil List.any_cons List.contains_cons List.contains_nil yc A74 A75 A76 A77 A3O A3P A3Q A3R A78 A3S SV.names pNames List.mem_cons List.not_mem_nil or_false forall_eq forall_eq_or_imp and_imp false_implies mem_singleton not_true_eq_false if_true if_false yX tU leV leL leT leP Gt Hv KR lL Kk chNames LX yY A6u A6v A6w A6x A3E A3F A3G A3H A6y A3I Cmd.run pM yg A7P A7Q A7R A7S A3l A3m A3n A3o Rb gp gm gq gr pN U3 fzS ye A7E A7F A7G A7H A3Y A3Z A3a A3b A7I A3c yf A7J A7K A7L A7M A3d A3e A3f A3g A7N A3h Xz PG Xx MG To1 memF Sy.Sub A0u A5A
attribute [go_sem] ya2 A8U A8u A9J A5g A60 A1u
theorem ck{o:Array Oper}{t:Sy.Trace}(h:Sq o t=true:=by kernel_rfl):Sq o t=true:=h
theorem sL{r0 r:List C}{c:C}(h1:r∈[r0])(h2:c∈r)(h:r0.all C.stor=true:=by simp only[go_sem]):C.stor c=true:=A1v h r h1 c h2
theorem oI{A:Type}{a b:A}(h:some a=some b):b=a:=(Option.some.inj h).symm
theorem nah{p q:Prop}(h:p)(k:¬p:=by decide):q:=absurd h k
theorem KZ{P:Prop}(h:P:=by first|(rename_i h;first|exact oI h|exact nah h)|(rename_i _ h _ g;exact sL h g)|decide|omega):P:=h
theorem KA{P:Prop}(h:P:=by first|((repeat' first|exact ck|with_reducible apply And.intro|intro _);all_goals first|exact trivial|assumption|(apply And.intro<;>assumption)|(refine⟨?_,?_,?_⟩<;>assumption)|exact KZ)|fail):P:=h
theorem AX{a b:Prop}(h:b)(g:a:=by first|((fail_if_success exact (rfl:77=77));exact KA)|fail):a/\b:=⟨g,h⟩
inductive Ex where
 |nil
 |mk (k n:Int) (s:List UInt8) (a b:Ex)
inductive Cd where
 |nil
 |mk (k:Int) (a b:Ex) (p q:Cd) (s:List UInt8)
structure Ar where
 p:Bool
 s:List UInt8
 e:Ex
inductive Sm where
 |mk (k:Int) (x y:List UInt8) (e f:Ex) (c:Cd) (args:List Ar) (th el:List Sm) (no:Int)
structure Vr where
 s:List UInt8
 p:Bool
structure Fn where
 name:List UInt8
 ps:List Vr
 ls:List Vr
 body:List Sm
structure Tok where
 k:Int
 t:List UInt8
 p:Int
abbrev dN:D:=.v (.pointer none)
abbrev dI(n:Int):D:=.v (.int .i64 n)
abbrev dS(s:List UInt8):D:=.v (.string (bs s))
abbrev dL0:D:=.v (.slice none 0 0)
def Ex.d:Ex->D
 | .nil=>dN
 | .mk k n s a b=>.pt (some [dI k,dI n,dS s,a.d,b.d])
def Cd.d:Cd->D
 | .nil=>dN
 | .mk k a b p q s=>.pt (some [dI k,a.d,b.d,p.d,q.d,dS s])
def Ar.r(a:Ar):List D:=[.v (.bool a.p),dS a.s,a.e.d]
def zAr:List D:=[.v (.bool false),dS [],dN]
def zSm:List D:=[dI 0,dS [],dS [],dN,dN,dN,dL0,dL0,dL0,dI 0]
mutual
def Sm.r:Sm->List D
 | .mk k x y e f c args th el no=>[dI k,dS x,dS y,e.d,f.d,c.d,.sl zAr (args.map Ar.r),.sl zSm (Sm.rs th),.sl zSm (Sm.rs el),dI no]
def Sm.rs:List Sm->List (List D)
 |[]=>[]
 |s::l=>s.r::Sm.rs l
end
theorem lP:∀l:List Sm,Sm.rs l=l.map Sm.r
 |[]=>by simp[Sm.rs]
 |s::l=>by simp only[Sm.rs,List.map_cons,lP l]
def Vr.r(v:Vr):List D:=[dS v.s,.v (.bool v.p)]
def zVr:List D:=[dS [],.v (.bool false)]
def Fn.r(f:Fn):List D:=[dS f.name,.sl zVr (f.ps.map Vr.r),.sl zVr (f.ls.map Vr.r),.sl zSm (f.body.map Sm.r)]
def zFn:List D:=[dS [],dL0,dL0,dL0]
def Tok.r(x:Tok):List D:=[dI x.k,dS x.t,dI x.p]
def zTk:List D:=[dI 0,dS [],dI 0]
theorem pq:ByteArray.empty=bs []:=rfl
theorem bs_inj{a b:List UInt8}(h:bs a=bs b):a=b:=by rw[<- IB a,<- IB b,h]
theorem L3:∀{a b:Ex},a.d=b.d->a=b
 | .nil,.nil,_=>rfl
 | .nil,.mk ..,h=>by simp[Ex.d]at h
 | .mk ..,.nil,h=>by simp[Ex.d]at h
 | .mk k n s a b,.mk k' n' s' a' b',h=>by
  simp only[Ex.d,D.pt.injEq,jS,List.cons.injEq,D.v.injEq,Value.int.injEq,Value.string.injEq,true_and,and_true]at h
  obtain⟨rfl,rfl,h1,h2,h3⟩:=h
  rw[bs_inj h1,L3 h2,L3 h3]
theorem U7:∀{a b:Cd},a.d=b.d->a=b
 | .nil,.nil,_=>rfl
 | .nil,.mk ..,h=>by simp[Cd.d]at h
 | .mk ..,.nil,h=>by simp[Cd.d]at h
 | .mk k a b p q s,.mk k' a' b' p' q' s',h=>by
  simp only[Cd.d,D.pt.injEq,jS,List.cons.injEq,D.v.injEq,Value.int.injEq,Value.string.injEq,true_and,and_true]at h
  obtain⟨rfl,h1,h2,h3,h4,h5⟩:=h
  rw[bs_inj h5,L3 h1,L3 h2,U7 h3,U7 h4]
theorem Aj{A B:Type}{f:A->B}(hf:∀a b,f a=f b->a=b):∀{l m:List A},l.map f=m.map f->l=m
 |[],[],_=>rfl
 |[],_::_,h=>by simp at h
 |_::_,[],h=>by simp at h
 |a::l,b::m,h=>by
  simp only[List.map_cons,List.cons.injEq]at h
  rw[hf _ _ h.1,Aj hf h.2]
theorem lQ(a b:Ar)(h:a.r=b.r):a=b:=by
 obtain⟨p,s,e⟩:=a
 obtain⟨p',s',e'⟩:=b
 simp only[Ar.r,List.cons.injEq,D.v.injEq,Value.bool.injEq,Value.string.injEq,and_true]at h
 obtain⟨rfl,h1,h2⟩:=h
 rw[bs_inj h1,L3 h2]
mutual
theorem Mh:∀(a b:Sm),a.r=b.r->a=b
 | .mk k x y e f c args th el no,.mk k' x' y' e' f' c' args' th' el' no',h=>by
  simp only[Sm.r,List.cons.injEq,D.v.injEq,D.sl.injEq,Value.int.injEq,Value.string.injEq,true_and,and_true]at h
  obtain⟨rfl,h1,h2,h3,h4,h5,h6,h7,h8,rfl⟩:=h
  rw[bs_inj h1,bs_inj h2,L3 h3,L3 h4,U7 h5,Aj lQ h6,Y6 th th' h7,Y6 el el' h8]
theorem Y6:∀(l m:List Sm),Sm.rs l=Sm.rs m->l=m
 |[],[],_=>rfl
 |[],_::_,h=>by simp[Sm.rs]at h
 |_::_,[],h=>by simp[Sm.rs]at h
 |a::l,b::m,h=>by
  simp only[Sm.rs,List.cons.injEq]at h
  rw[Mh a b h.1,Y6 l m h.2]
end
theorem Og(a b:Vr)(h:a.r=b.r):a=b:=by
 obtain⟨s,p⟩:=a
 obtain⟨s',p'⟩:=b
 simp only[Vr.r,List.cons.injEq,D.v.injEq,Value.bool.injEq,Value.string.injEq,and_true]at h
 rw[bs_inj h.1,h.2]
theorem WO(a b:Fn)(h:a.r=b.r):a=b:=by
 obtain⟨n,ps,ls,bd⟩:=a
 obtain⟨n',ps',ls',bd'⟩:=b
 simp only[Fn.r,List.cons.injEq,D.v.injEq,D.sl.injEq,Value.string.injEq,true_and,and_true]at h
 rw[bs_inj h.1,Aj Og h.2.1,Aj Og h.2.2.1,Aj Mh h.2.2.2]
theorem lR(a b:Tok)(h:a.r=b.r):a=b:=by
 obtain⟨s,p,q⟩:=a
 obtain⟨s',p',q'⟩:=b
 simp only[Tok.r,List.cons.injEq,D.v.injEq,Value.int.injEq,Value.string.injEq,and_true,true_and]at h
 rw[h.1,bs_inj h.2.1,h.2.2]
theorem bm(d:D):toD (oD d)=some d:=by cases d<;>rfl
theorem ec(d:D):F3 (oD d)=true:=by cases d<;>rfl
theorem lS(n:Nat)(d:D):J8 n (oD d)=true:=by cases d<;>rfl
theorem lT(f:Nat->Nat)(d:D):GF f (oD d)=oD d:=by cases d<;>rfl
theorem rh(k t:Nat)(d:D):mvC k t (oD d)=oD d:=by cases d<;>rfl
theorem ri(k:Nat)(z:List D)(es:List (List D))(d:D):fzC k z es (oD d)=oD d:=by cases d<;>rfl
theorem lU(k u:Nat)(p:List (Nat×Nat))(i j:Nat)(d:D)(r:List C):ldc k u p i j (oD d::r)=oD d::ldc k u p i (j+1) r:=by cases d<;>rfl
def Ex.isNil:Ex->Bool
 | .nil=>true
 |_=>false
def Cd.isNil:Cd->Bool
 | .nil=>true
 |_=>false
def exC(e:Ex):C:=oD e.d
theorem A6M(e:Ex):oD e.d=exC e:=rfl
theorem bp(e:Ex):toD (exC e)=some e.d:=bm _
theorem x9(e:Ex):F3 (exC e)=true:=ec _
theorem Y7(e:Ex):C.stor (exC e)=true:=Nr _
theorem M2(e:Ex):C.names (exC e)=[]:=RT _
theorem bq(n:Nat)(e:Ex):J8 n (exC e)=true:=lS n _
theorem A1w(f:Nat->Nat)(e:Ex):GF f (exC e)=exC e:=lT f _
theorem A6N(k t:Nat)(e:Ex):mvC k t (exC e)=exC e:=rh k t _
theorem A6O(k:Nat)(z:List D)(es:List (List D))(e:Ex):fzC k z es (exC e)=exC e:=ri k z es _
theorem A1x(k u:Nat)(p:List (Nat×Nat))(i j:Nat)(e:Ex)(r:List C):ldc k u p i j (exC e::r)=exC e::ldc k u p i (j+1) r:=lU ..
theorem xA(e:Ex):LS (exC e)=some e.isNil:=by cases e<;>rfl
theorem Af:exC .nil= .v (.pointer none):=rfl
def cdC(e:Cd):C:=oD e.d
theorem A6P(e:Cd):oD e.d=cdC e:=rfl
theorem lV(e:Cd):toD (cdC e)=some e.d:=bm _
theorem xB(e:Cd):F3 (cdC e)=true:=ec _
theorem ed(e:Cd):C.stor (cdC e)=true:=Nr _
theorem Rl(e:Cd):C.names (cdC e)=[]:=RT _
theorem br(n:Nat)(e:Cd):J8 n (cdC e)=true:=lS n _
theorem A1y(f:Nat->Nat)(e:Cd):GF f (cdC e)=cdC e:=lT f _
theorem A6Q(k t:Nat)(e:Cd):mvC k t (cdC e)=cdC e:=rh k t _
theorem A6R(k:Nat)(z:List D)(es:List (List D))(e:Cd):fzC k z es (cdC e)=cdC e:=ri k z es _
theorem A1z(k u:Nat)(p:List (Nat×Nat))(i j:Nat)(e:Cd)(r:List C):ldc k u p i j (cdC e::r)=cdC e::ldc k u p i (j+1) r:=lU ..
theorem xC(e:Cd):LS (cdC e)=some e.isNil:=by cases e<;>rfl
theorem BD:cdC .nil= .v (.pointer none):=rfl
theorem EU(k n:Int)(s:List UInt8)(a b:Ex):exC (.mk k n s a b)= .d (.pt (some [.v (.int .i64 k),.v (.int .i64 n),.v (.string (bs s)),a.d,b.d])):=rfl
theorem EF(k:Int)(a b:Ex)(p q:Cd)(s:List UInt8):cdC (.mk k a b p q s)= .d (.pt (some [.v (.int .i64 k),a.d,b.d,p.d,q.d,.v (.string (bs s))])):=rfl
theorem HI:Ex.d .nil= .v (.pointer none):=rfl
theorem Qp:Cd.d .nil= .v (.pointer none):=rfl
structure Pr where
 l:List Tok
 i:Int
 en:Int
 e:Int
 at':Int
 deep:Int
 n:Int
theorem AS(p:Pr):(⟨p.l,p.i,p.en,p.e,p.at',p.deep,p.n⟩:Pr)=p:=rfl
def Pr.r(p:Pr):List D:=[.sl zTk (p.l.map Tok.r),dI p.i,dI p.en,dI p.e,dI p.at',dI p.deep,dI p.n]
def Pr.c(p:Pr):List C:=[.d (.sl zTk (p.l.map Tok.r)),.v (.int .i64 p.i),.v (.int .i64 p.en),.v (.int .i64 p.e),.v (.int .i64 p.at'),.v (.int .i64 p.deep),.v (.int .i64 p.n)]
def A20:List D:=[dL0,dI 0,dI 0,dI 0,dI 0,dI 0,dI 0]
abbrev zPr:List C:=[.v (.int .i64 0),.v (.int .i64 0),.v (.int .i64 0),.v (.int .i64 0),.v (.int .i64 0),.v (.int .i64 0),.v (.int .i64 0)]
theorem xD(a b:Pr)(h:a.r=b.r):a=b:=by
 obtain⟨l,i,en,e,at',deep,n⟩:=a
 obtain⟨l',i',en',e',at2,deep',n'⟩:=b
 simp only[Pr.r,List.cons.injEq,D.v.injEq,D.sl.injEq,Value.int.injEq,true_and,and_true]at h
 obtain⟨h1,rfl,rfl,rfl,rfl,rfl,rfl⟩:=h
 rw[Aj lR h1]
theorem xE(a b:Pr)(h:a.c=b.c):a=b:=by
 obtain⟨l,i,en,e,at',deep,n⟩:=a
 obtain⟨l',i',en',e',at2,deep',n'⟩:=b
 simp only[Pr.c,List.cons.injEq,C.v.injEq,C.d.injEq,D.sl.injEq,Value.int.injEq,true_and,and_true]at h
 obtain⟨h1,rfl,rfl,rfl,rfl,rfl,rfl⟩:=h
 rw[Aj lR h1]
noncomputable def rPr:RowC Pr:=rowOf A20 Pr.r xD λ_=>rfl
theorem WP(p:Pr):∀c∈p.c,c.names=[]:=by
 intro c hc
 simp only[Pr.c,List.mem_cons,List.not_mem_nil,or_false]at hc
 rcases hc with rfl|rfl|rfl|rfl|rfl|rfl|rfl<;>rfl
noncomputable def mPr:RowM Pr:=MP zPr Pr.c WP
theorem rj:rPr.z=A20:=rfl
theorem rl:rPr.e=Pr.r:=rfl
theorem As(l:List Tok)(i en e at' deep n:Int):rPr.d [.sl zTk (l.map Tok.r),dI i,dI en,dI e,dI at',dI deep,dI n]=some ⟨l,i,en,e,at',deep,n⟩:=rPr.i ⟨l,i,en,e,at',deep,n⟩
theorem Au:mPr.z=zPr:=rfl
theorem Av:mPr.e=Pr.c:=rfl
theorem Aw(l:List Tok)(i en e at' deep n:Int):mPr.d [.d (.sl zTk (l.map Tok.r)),.v (.int .i64 i),.v (.int .i64 en),.v (.int .i64 e),.v (.int .i64 at'),.v (.int .i64 deep),.v (.int .i64 n)]=some ⟨l,i,en,e,at',deep,n⟩:=JG xE ⟨l,i,en,e,at',deep,n⟩
theorem A21(p:Pr):∀q,some q∈[some ((zPr,[p.c]):MV)]->∀r∈q.2,∀c∈r,c.names=[]:=by
 intro q hq r hr c hc
 simp only[mem_singleton,jS]at hq
 subst hq
 simp only[mem_singleton]at hr
 subst hr
 exact WP p c hc
abbrev tk0:Tok:=⟨0,[],0⟩
theorem xF(l:List Tok)(i:Nat):(l.map Tok.r).getD i zTk=Tok.r (l.getD i tk0):=by
 simp only[List.getD,List.getElem?_map]
 cases l[i]?<;>rfl
attribute [go_sem] A6M bp x9 Y7 M2 A1w A6N A6O A1x xA A6P lV xB ed Rl A1y A6Q A6R A1z xC dI dL0 dN dS pq bm
open Go Go.Sy Go.RowKit
abbrev E1(l:List UInt8):Prop:=l.length<=4294967296
def M3(b:Int):Bool:=decide (97<=b)&&decide (b<=122)||(decide (65<=b)&&decide (b<=90))||b==95
def F9(b:Int):Bool:=decide (48<=b)&&decide (b<=57)
abbrev chI(l:List UInt8)(i:Nat):Int:=((l.getD i 0).toNat:Int)
def idB(b:Int):Bool:=M3 b||F9 b
def Gd(x:Tok):List C:=[.v (.int .i64 x.k),.v (.string (bs x.t)),.v (.int .i64 x.p)]
def A22(x:Tok):List D:=[.v (.int .i64 x.k),.v (.string (bs x.t)),.v (.int .i64 x.p)]
def FW:List C:=[.v (.int .i64 0),.v (.string ByteArray.empty),.v (.int .i64 0)]
theorem A23:zT FW=none:=rfl
attribute [go_sem] A23
def MK:List D:=[.v (.int .i64 0),.v (.string ByteArray.empty),.v (.int .i64 0)]
theorem xG(u:Nat)(z:List C)(l:List Tok):chNames (.vec u z (l.map Gd))=[]:=bk Gd (by intro a c hc;simp only[Gd,List.mem_cons,List.not_mem_nil,or_false]at hc;rcases hc with rfl|rfl|rfl<;>rfl) u z l
theorem E2(l:List Tok):List.flatMap (λr=>List.flatMap C.names r) (l.map Gd)=[]:=xG 0 [] l
theorem lW(l:List Tok):EZ (l.map Gd)=some (l.map A22):=Hi Gd (λ_=>rfl) l
theorem Nw(k t:Nat)(l:List Tok):(l.map Gd).map (λr=>r.map (mvC k t))=l.map Gd:=HU Gd (λ_=>rfl) l
def MM(r:List Tok×Int×Int):SV:=.tup [.inl (.d (.sl MK (r.1.map A22))),.inl (.v (.int .i64 r.2.1)),.inl (.v (.int .i64 r.2.2))]
def Oh(l:List UInt8)(c:Int):Bool:=l.any λb=>((b.toNat:Nat):Int)==c
theorem xH{l:List UInt8}{i:Nat}(h:i<l.length)(c:Int):Oh (l.drop i) c=(((l.getD i 0).toNat:Int)==c||Oh (l.drop (i+1)) c):=by
 rw[List.drop_eq_getElem_cons h]
 simp only[Oh,List.any_cons,List.getD,List.getElem?_eq_getElem h,Option.getD_some]
def blB(c:Int):Bool:=c==32||c==9||c==13||c==10
def nlB(c:Int):Bool:=!(c==10)
def dgF:List UInt8->Int->Bool->Int×Bool
 |[],n,g=>(n,g)
 |b::r,n,g=>if F9 (b.toNat:Int)=true then (if decide (922337203685477580<n)=true then dgF r n true else dgF r (IntKind.u64.wrap (IntKind.u64.wrap (10*n)+IntKind.u64.wrap (IntKind.u8.wrap ((b.toNat:Int)-48)))) g) else (n,g)
theorem A24{l:List UInt8}{i:Nat}(h:i<l.length)(n:Int)(g:Bool):dgF (l.drop i) n g=if F9 (chI l i)=true then (if decide (922337203685477580<n)=true then dgF (l.drop (i+1)) n true else dgF (l.drop (i+1)) (IntKind.u64.wrap (IntKind.u64.wrap (10*n)+IntKind.u64.wrap (IntKind.u8.wrap (chI l i-48)))) g) else (n,g):=by
 rw[List.drop_eq_getElem_cons h]
 simp only[dgF,chI,List.getD,List.getElem?_eq_getElem h,Option.getD_some]
theorem xI{l:List UInt8}{i:Nat}(h:l.length<=i)(n:Int)(g:Bool):dgF (l.drop i) n g=(n,g):=by
 rw[List.drop_eq_nil_of_le h];rfl
def Y8(l:List UInt8):Bool:=(dgF l 0 false).2||decide (9223372036854775807<(dgF l 0 false).1)
def iE(s:List UInt8)(i:Nat):Bool:=decide (((i+2:Nat):Int)<=(s.length:Int))&&((s.drop i).take 2==[61,61]||(s.drop i).take 2==[33,61]||(s.drop i).take 2==[60,61]||(s.drop i).take 2==[62,61]||(s.drop i).take 2==[38,38]||(s.drop i).take 2==[124,124])
abbrev WQ:List UInt8:=[61,60,62,43,45,42,47,37,38,33,40,41,123,125,91,93,44,59]
def rxF(s:List UInt8):Nat->Nat->List Tok->List Tok×Int×Int
 |0,_,out=>(out,0,0)
 |f+1,i,out=>
  if s.length<=i then (out,0,0)
  else if blB (chI s i)=true then rxF s f (i+1) out
  else if (chI s i==35)=true then rxF s f (i+Dr nlB (s.drop i)) out
  else if M3 (chI s i)=true then (if decide (32<((Dr idB (s.drop i):Nat):Int))=true then ([],(i:Int),53) else rxF s f (i+Dr idB (s.drop i)) (out++[⟨0,(s.drop i).take (Dr idB (s.drop i)),(i:Int)⟩]))
  else if F9 (chI s i)=true then
   (
    if Y8 (s.drop i)=true then ([],(i:Int),53)
    else if (decide (((i+Dr F9 (s.drop i):Nat):Int)<(s.length:Int))&&M3 (chI s (i+Dr F9 (s.drop i)))||(chI s i==48&&decide (1<((Dr F9 (s.drop i):Nat):Int))))=true then ([],(i:Int),50)
    else rxF s f (i+Dr F9 (s.drop i)) (out++[⟨1,(s.drop i).take (Dr F9 (s.drop i)),(i:Int)⟩]))
  else if iE s i=true then rxF s f (i+2) (out++[⟨2,(s.drop i).take 2,(i:Int)⟩])
  else if Oh WQ (chI s i)=true then rxF s f (i+1) (out++[⟨2,(s.drop i).take 1,(i:Int)⟩])
  else ([],(i:Int),50)
def rxT(s:List UInt8):List Tok×Int×Int:=if decide (4096<(s.length:Int))=true then ([],0,53) else rxF s s.length 0 []
abbrev rxI(s:List UInt8)(i:Nat)(out:List Tok):St:=⟨[(0,true,.one (.v (.string (bs s)))),(5,true,.one (.s 1000)),(6,true,.one (.v (.int .i64 (i:Int))))],[(1000,.vec 0 FW (out.map Gd))]⟩
abbrev rxJ(s:List UInt8)(i:Nat)(out:List Tok):Prop:=i<=s.length/\out.length<=i/\∃f,s.length-i<=f/\rxF s f i out=rxT s
theorem A6S(h:(!b)=true):b=false:=by cases b<;>simp_all
theorem A6T(h:(!b)=false):b=true:=by cases b<;>simp_all
theorem rn{a:Bool}(h:(a&&b)=true):a=true:=by cases a<;>simp_all
end Go.Proofs.YtapedeoheilnnaaGreat
