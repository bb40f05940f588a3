/- Closed facts on the types of the program, for the second executor. No conditions. -/
import Derived.Test.YtapedeoheilnnaaGreatSyB
import Derived.Test.YtapedeoheilnnaaGreatRows
import Derived.KernelRfl
import Derived.Test.YtapedeoheilnnaaGreatOp
set_option linter.all false
open List (mem_singleton)
namespace Go.Proofs.YtapedeoheilnnaaGreat
open Go Go.Sy
variable{b:Bool}
theorem ya2:Ck Tryz.prog 2=some false∧Am Tryz.prog 2=some 1∧GL Tryz.prog 2=some 8∧Cs Tryz.prog 2=some (.int .i64 0)∧PF Tryz.prog 2=some .i64∧Ck Tryz.prog 3=some false∧Am Tryz.prog 3=some 1∧Cs Tryz.prog 3=some (.int .i64 0)∧PF Tryz.prog 3=some .i64∧Ck Tryz.prog 4=some false∧Am Tryz.prog 4=some 1∧Tryz.prog.underlying 4=some .bool∧Ck Tryz.prog 5=some false∧Am Tryz.prog 5=some 1∧PF Tryz.prog 5=some .u8∧Ck Tryz.prog 9=some false∧Am Tryz.prog 9=some 1∧GL Tryz.prog 9=some 16∧Cs Tryz.prog 9=some (.string ByteArray.empty)∧Mj Tryz.prog 9=true∧DD Tryz.prog 22=some 70∧Ck Tryz.prog 23=some false∧Am Tryz.prog 23=some 1∧DD Tryz.prog 23=some 2∧Ck Tryz.prog 24=some false∧Am Tryz.prog 24=some 1∧DD Tryz.prog 24=some 69∧Ck Tryz.prog 25=some false∧Am Tryz.prog 25=some 1∧DD Tryz.prog 25=some 72∧Ck Tryz.prog 27=some true∧Am Tryz.prog 27=some 2∧Cs Tryz.prog 27=some (.agg #[.slice none 0 0,.slice none 0 0])∧A8 Tryz.prog 27 0=some (0,24)∧A8 Tryz.prog 27 1=some (1,25)∧Df Tryz.prog 27=some [(0,1),(1,1)]∧Ck Tryz.prog 31=some false∧Am Tryz.prog 31=some 1∧DD Tryz.prog 31=some 9∧Ck Tryz.prog 32=some false:=by and_intros<;>kernel_rfl
theorem A8E:Am Tryz.prog 32=some 1∧DD Tryz.prog 32=some 84∧Ck Tryz.prog 34=some true∧Am Tryz.prog 34=some 2∧Cs Tryz.prog 34=some (.agg #[.slice none 0 0,.slice none 0 0])∧A8 Tryz.prog 34 0=some (0,31)∧A8 Tryz.prog 34 1=some (1,32)∧Ck Tryz.prog 35=some false∧Am Tryz.prog 35=some 1∧DD Tryz.prog 35=some 77∧Ck Tryz.prog 37=some true∧Am Tryz.prog 37=some 3∧Cs Tryz.prog 37=some (.agg #[.slice none 0 0,.slice none 0 0,.slice none 0 0])∧A8 Tryz.prog 37 0=some (0,34)∧A8 Tryz.prog 37 1=some (2,35)∧DD Tryz.prog 41=some 67∧Ck Tryz.prog 45=some true∧Am Tryz.prog 45=some 2∧Cs Tryz.prog 45=some (.agg #[.int .i64 0,.int .i64 0])∧A8 Tryz.prog 45 0=some (0,3)∧A8 Tryz.prog 45 1=some (1,3)∧Df Tryz.prog 45=some [(0,1),(1,1)]∧tEq Tryz.prog 45=some [(0,.i),(1,.i)]∧Ck Tryz.prog 47=some true∧Am Tryz.prog 47=some 7∧Cs Tryz.prog 47=some (.agg #[.int .i64 0,.int .i64 0,.string ByteArray.empty,.int .i64 0,.int .i64 0,.slice none 0 0,.slice none 0 0])∧A8 Tryz.prog 47 0=some (0,3)∧A8 Tryz.prog 47 1=some (1,2)∧A8 Tryz.prog 47 2=some (2,9)∧A8 Tryz.prog 47 3=some (3,45)∧A8 Tryz.prog 47 4=some (5,27)∧Df Tryz.prog 47=some [(0,1),(1,1),(2,1),(3,2),(5,2)]∧Am Tryz.prog 64=some 2∧GL Tryz.prog 64=some 32∧Cs Tryz.prog 64=some (.agg #[.string ByteArray.empty,.string ByteArray.empty])∧A8 Tryz.prog 64 0=some (0,9)∧A8 Tryz.prog 64 1=some (1,9)∧Df Tryz.prog 64=some [(0,1),(1,1)]∧DD Tryz.prog 65=some 64∧Ck Tryz.prog 67=some true:=by and_intros<;>kernel_rfl
theorem A8e:Am Tryz.prog 67=some 3∧GL Tryz.prog 67=some 32∧Cs Tryz.prog 67=some (.agg #[.bool false,.int .i64 0,.string ByteArray.empty])∧A8 Tryz.prog 67 0=some (0,4)∧A8 Tryz.prog 67 1=some (1,2)∧A8 Tryz.prog 67 2=some (2,9)∧Df Tryz.prog 67=some [(0,1),(1,1),(2,1)]∧Ck Tryz.prog 69=some true∧Am Tryz.prog 69=some 2∧GL Tryz.prog 69=some 24∧Cs Tryz.prog 69=some (.agg #[.string ByteArray.empty,.int .i64 0])∧A8 Tryz.prog 69 0=some (0,9)∧A8 Tryz.prog 69 1=some (1,2)∧Df Tryz.prog 69=some [(0,1),(1,1)]∧tEq Tryz.prog 69=some [(0,.s),(1,.i)]∧Ck Tryz.prog 70=some false∧Am Tryz.prog 70=some 1∧DD Tryz.prog 70=some 5∧Ck Tryz.prog 72=some true∧Am Tryz.prog 72=some 2∧GL Tryz.prog 72=some 40∧Cs Tryz.prog 72=some (.agg #[.string ByteArray.empty,.slice none 0 0])∧A8 Tryz.prog 72 0=some (0,9)∧A8 Tryz.prog 72 1=some (1,23)∧Df Tryz.prog 72=some [(0,1),(1,1)]∧Ck Tryz.prog 74=some false∧Am Tryz.prog 74=some 1∧DD Tryz.prog 74=some 79∧Ck Tryz.prog 75=some false∧Am Tryz.prog 75=some 1∧DD Tryz.prog 75=some 154∧Ck Tryz.prog 77=some true∧Am Tryz.prog 77=some 4∧GL Tryz.prog 77=some 88∧Cs Tryz.prog 77=some (.agg #[.string ByteArray.empty,.slice none 0 0,.slice none 0 0,.slice none 0 0])∧A8 Tryz.prog 77 0=some (0,9)∧A8 Tryz.prog 77 1=some (1,74)∧A8 Tryz.prog 77 2=some (2,74)∧A8 Tryz.prog 77 3=some (3,75)∧Df Tryz.prog 77=some [(0,1),(1,1),(2,1),(3,1)]:=by and_intros<;>kernel_rfl
theorem A93:Ck Tryz.prog 79=some true∧Am Tryz.prog 79=some 2∧GL Tryz.prog 79=some 24∧Cs Tryz.prog 79=some (.agg #[.string ByteArray.empty,.bool false])∧A8 Tryz.prog 79 0=some (0,9)∧A8 Tryz.prog 79 1=some (1,4)∧Df Tryz.prog 79=some [(0,1),(1,1)]∧Ck Tryz.prog 80=some false∧Am Tryz.prog 80=some 1∧Ck Tryz.prog 81=some false∧Am Tryz.prog 81=some 1∧RG Tryz.prog 81=some (9,3)∧Ck Tryz.prog 84=some true∧Am Tryz.prog 84=some 2∧GL Tryz.prog 84=some 24∧Cs Tryz.prog 84=some (.agg #[.string ByteArray.empty,.int .i64 0])∧A8 Tryz.prog 84 0=some (0,9)∧A8 Tryz.prog 84 1=some (1,3)∧Df Tryz.prog 84=some [(0,1),(1,1)]∧Cs Tryz.prog 86=some (.agg #[.slice none 0 0,.slice none 0 0,.slice none 0 0,.int .i64 0,.int .i64 0,.map none,.map none,.map none,.slice none 0 0,.slice none 0 0,.int .i64 0,.int .i64 0,.string ByteArray.empty,.int .i64 0,.int .i64 0,.slice none 0 0,.slice none 0 0])∧A8 Tryz.prog 86 0=some (0,37)∧A8 Tryz.prog 86 1=some (3,3)∧A8 Tryz.prog 86 2=some (4,3)∧A8 Tryz.prog 86 3=some (5,81)∧A8 Tryz.prog 86 4=some (6,81)∧A8 Tryz.prog 86 5=some (7,81)∧A8 Tryz.prog 86 6=some (8,27)∧A8 Tryz.prog 86 7=some (10,47)∧Df Tryz.prog 86=some [(0,3),(3,1),(4,1),(5,1),(6,1),(7,1),(8,2),(10,7)]∧Cs Tryz.prog 90=some (.agg #[.slice none 0 0,.slice none 0 0,.slice none 0 0,.slice none 0 0,.slice none 0 0,.int .i64 0,.int .i64 0,.int .i64 0,.int .i64 0,.string ByteArray.empty,.int .i64 0,.int .i64 0])∧A8 Tryz.prog 90 0=some (0,37)∧A8 Tryz.prog 90 1=some (3,27)∧A8 Tryz.prog 90 2=some (5,3)∧A8 Tryz.prog 90 3=some (6,3)∧A8 Tryz.prog 90 4=some (7,3)∧A8 Tryz.prog 90 5=some (8,2)∧A8 Tryz.prog 90 6=some (9,9)∧A8 Tryz.prog 90 7=some (10,45)∧Df Tryz.prog 90=some [(0,3),(3,2),(5,1),(6,1),(7,1),(8,1),(9,1),(10,2)]∧Ck Tryz.prog 113=some false:=by and_intros<;>kernel_rfl
theorem A5P:Am Tryz.prog 113=some 1∧RG Tryz.prog 113=some (9,2)∧Ck Tryz.prog 114=some false∧Am Tryz.prog 114=some 1∧RG Tryz.prog 114=some (9,9)∧Cs Tryz.prog 116=some (.agg #[.string ByteArray.empty,.slice none 0 0,.slice none 0 0,.slice none 0 0,.map none,.map none])∧A8 Tryz.prog 116 0=some (0,77)∧A8 Tryz.prog 116 1=some (4,113)∧A8 Tryz.prog 116 2=some (5,114)∧Df Tryz.prog 116=some [(0,4),(4,1),(5,1)]∧Ck Tryz.prog 120=some false∧Am Tryz.prog 120=some 1∧DD Tryz.prog 120=some 131∧Cs Tryz.prog 125=some (.agg #[.slice none 0 0,.int .i64 0,.int .i64 0,.int .i64 0,.int .i64 0,.int .i64 0,.int .i64 0])∧A8 Tryz.prog 125 0=some (0,120)∧A8 Tryz.prog 125 1=some (1,3)∧A8 Tryz.prog 125 2=some (2,3)∧A8 Tryz.prog 125 3=some (3,3)∧A8 Tryz.prog 125 4=some (4,3)∧A8 Tryz.prog 125 5=some (5,3)∧A8 Tryz.prog 125 6=some (6,3)∧Df Tryz.prog 125=some [(0,1),(1,1),(2,1),(3,1),(4,1),(5,1),(6,1)]∧Am Tryz.prog 131=some 3∧GL Tryz.prog 131=some 32∧Cs Tryz.prog 131=some (.agg #[.int .i64 0,.string ByteArray.empty,.int .i64 0])∧A8 Tryz.prog 131 0=some (0,3)∧A8 Tryz.prog 131 1=some (1,9)∧A8 Tryz.prog 131 2=some (2,3)∧Df Tryz.prog 131=some [(0,1),(1,1),(2,1)]∧Cs Tryz.prog 139=some (.agg #[.slice none 0 0,.int .i64 0,.int .i64 0])∧A8 Tryz.prog 139 0=some (0,70)∧A8 Tryz.prog 139 1=some (1,3)∧A8 Tryz.prog 139 2=some (2,3)∧Df Tryz.prog 139=some [(0,1),(1,1),(2,1)]∧Cs Tryz.prog 143=some (.agg #[])∧qi Tryz.prog 143=true∧Df Tryz.prog 143=some []∧Ck Tryz.prog 145=some false∧Am Tryz.prog 145=some 1∧RG Tryz.prog 145=some (9,67):=by and_intros<;>kernel_rfl
theorem A5j:Cs Tryz.prog 147=some (.agg #[.pointer none,.string ByteArray.empty,.map none,.int .i64 0])∧A8 Tryz.prog 147 0=some (0,80)∧A8 Tryz.prog 147 1=some (1,9)∧A8 Tryz.prog 147 2=some (2,145)∧A8 Tryz.prog 147 3=some (3,2)∧Df Tryz.prog 147=some [(0,1),(1,1),(2,1),(3,1)]∧Ck Tryz.prog 150=some false∧Am Tryz.prog 150=some 1∧tPtr Tryz.prog 150=some 177∧Ck Tryz.prog 151=some false∧Am Tryz.prog 151=some 1∧tPtr Tryz.prog 151=some 190∧Ck Tryz.prog 152=some false∧Am Tryz.prog 152=some 1∧DD Tryz.prog 152=some 179∧Ck Tryz.prog 154=some true∧Am Tryz.prog 154=some 10∧GL Tryz.prog 154=some 144∧Cs Tryz.prog 154=some (.agg #[.int .i64 0,.string ByteArray.empty,.string ByteArray.empty,.pointer none,.pointer none,.pointer none,.slice none 0 0,.slice none 0 0,.slice none 0 0,.int .i64 0])∧A8 Tryz.prog 154 0=some (0,3)∧A8 Tryz.prog 154 1=some (1,9)∧A8 Tryz.prog 154 2=some (2,9)∧A8 Tryz.prog 154 3=some (3,150)∧A8 Tryz.prog 154 4=some (4,150)∧A8 Tryz.prog 154 5=some (5,151)∧A8 Tryz.prog 154 6=some (6,152)∧A8 Tryz.prog 154 7=some (7,75)∧A8 Tryz.prog 154 8=some (8,75)∧A8 Tryz.prog 154 9=some (9,3)∧Df Tryz.prog 154=some [(0,1),(1,1),(2,1),(3,1),(4,1),(5,1),(6,1),(7,1),(8,1),(9,1)]∧PF Tryz.prog 156=some .u64∧Cs Tryz.prog 177=some (.agg #[.int .i64 0,.int .i64 0,.string ByteArray.empty,.pointer none,.pointer none])∧A8 Tryz.prog 177 0=some (0,3)∧A8 Tryz.prog 177 1=some (1,2)∧A8 Tryz.prog 177 2=some (2,9)∧A8 Tryz.prog 177 3=some (3,150)∧A8 Tryz.prog 177 4=some (4,150)∧Df Tryz.prog 177=some [(0,1),(1,1),(2,1),(3,1),(4,1)]∧Ck Tryz.prog 179=some true∧Am Tryz.prog 179=some 3:=by and_intros<;>kernel_rfl
theorem A1d:GL Tryz.prog 179=some 32∧Cs Tryz.prog 179=some (.agg #[.bool false,.string ByteArray.empty,.pointer none])∧A8 Tryz.prog 179 0=some (0,4)∧A8 Tryz.prog 179 1=some (1,9)∧A8 Tryz.prog 179 2=some (2,150)∧Df Tryz.prog 179=some [(0,1),(1,1),(2,1)]∧Cs Tryz.prog 190=some (.agg #[.int .i64 0,.pointer none,.pointer none,.pointer none,.pointer none,.string ByteArray.empty])∧A8 Tryz.prog 190 0=some (0,3)∧A8 Tryz.prog 190 1=some (1,150)∧A8 Tryz.prog 190 2=some (2,150)∧A8 Tryz.prog 190 3=some (3,151)∧A8 Tryz.prog 190 4=some (4,151)∧A8 Tryz.prog 190 5=some (5,9)∧Df Tryz.prog 190=some [(0,1),(1,1),(2,1),(3,1),(4,1),(5,1)]:=by and_intros<;>kernel_rfl
open Go Go.Sy Go.RowKit
def eB:=And.intro @e_nil (And.intro @e_cons (And.intro @e_text (And.intro @e_draw (And.intro @e_seq (And.intro @e_block (And.intro @e_then1 (And.intro @e_then2 (And.intro @e_then3 (And.intro @e_in1 (And.intro @e_in2 (And.intro @e_in3 (And.intro @e_nrmK (And.intro @e_textT (And.intro @e_drawK (And.intro @e_fac0 (And.intro @e_fac1 (And.intro @e_fac2 (And.intro @e_fac3 (And.intro @e_seqK (And.intro @e_ret (And.intro @e_skip (And.intro @e_label (And.intro @e_exit (And.intro @e_cond (And.intro @e_loop (And.intro @e_impBt (And.intro @e_impBf (And.intro @e_impNt @e_impNf))))))))))))))))))))))))))))
attribute[go_sem ↓] eB
theorem A1e{r0:List C}(h:r0.all C.stor=true):∀r∈[r0],∀c∈r,C.stor c=true:=by
 intro r h1 c h2
 rw[mem_singleton]at h1
 subst h1
 exact List.all_eq_true.1 h c h2
attribute [go_sem] A0Z A0a A0c A7q vQ vR vS A7r oz A0e Xp vT J5 Iu opG guarded slotOf Uk ZA guardOf opS fresh rV LJ QJ QK Tc NX RL Th aR flB J4 Hx Ik LK Jn RH ptrA Fi NY Fj NZ boI Jo Ko Kp Jp Nd MS IQ lkV RI Z8 oE EX Jq Ov Tf Jt oF LN A4o pnN wkL wkR A0E Te Ek inP Ha A7H A7I A3c A7J A3d A3e A7K y9 SM Td unV Xd fg Mx Ub JV K3 IP LM HL IZ Js fnSV Tg reads KF GC FJ IM HJ HK setAll KV Ml Ua tgN A4a A4b A4c A7f A7g A7h A4d A4e A4f A7i A7j A7k A4g A4h A4i A0A A0B A7l A7m A7n A0C A0D A4j A4k A4l A4m A4n ldc ldV yA A7L A7M A7N A7O A3f A3g A3h A3i A7P A3j clL OI A7C A3V A3W A3X Xc eqL eqC oA arI ff rdv rdg okV lkp St.app bD oX ofV SV.tupB SV.cells xy A6n A6o A6p A6q A36 A37 A38 A39 A6r A3A C.flat Gk LQ Sb Eo N0 toP updH capN List.getElem?_nil A4Z I6 A0i A0j gV vV pG pE A50 A51 A52 A53 gT gU Xr Xs PO ndB updM RX PP y5 A6x A6y A6z A70 A3G A3H A3I A3J A71 A3K nmM chO G4 memO A54 A55 A56 A57 A58 A59 A5A A5B A5C A5D A5E A5F Nat.sub_zero MA MB vP om vW pI vU pA gS A4x A4w A4z A4y gR A0f A0g A4u A4v slR slD RU Uq toD G3 ES List.length_map Int.toNat_natCast Int.natCast_nonneg A4s A4r FM FL gQ kY vN oi vO ol gO ZB jv fe Option.map_some Option.getD_some Option.getD_none Option.map_none Option.bind_some List.all_cons List.all_nil Bool.and_true Bool.true_and Bool.and_self Bool.not_not true_and and_true and_self true_or or_true forall_const true_implies imp_self implies_true List.getElem?_cons_zero List.getElem?_cons_succ List.getElem?_toArray List.length_cons List.length_nil List.map_cons List.map_nil List.set_cons_zero List.set_cons_succ List.length_set List.drop_zero List.drop_succ_cons List.take_succ_cons List.take_zero List.getD_cons_zero List.getD_cons_succ ne_eq not_false_eq_true Nat.le_refl Int.toNat_zero Nat.zero_mul Nat.zero_add Nat.add_zero Nat.one_mul jB Bool.not_false Bool.not_true Bool.or_false Bool.false_or Bool.or_true Bool.true_or Bool.and_false Bool.false_and Bool.not_eq_false' Bool.not_eq_true' Bool.or_self wrap_i64 Int.natCast_zero Int.natCast_one Int.cast_ofNat_Int Int.lt_irrefl decide_false decide_true Nat.lt_irrefl Nat.lt_add_one Int.toNat_one List.take_nil List.drop_nil List.flatMap_cons List.flatMap_nil List.append_nil List.nil_append List.cons_append List.append_eq List.any_nil List.any_cons List.contains_cons List.contains_nil xz A6s A6t A6u A6v A3B A3C A3D A3E A6w A3F SV.names pNames List.mem_cons List.not_mem_nil or_false forall_eq forall_eq_or_imp and_imp false_implies mem_singleton not_true_eq_false if_true if_false xw sg leV leL leT leP Gd Hr KI kW Kc chNames LP xx A6i A6j A6k A6l A31 A32 A33 A34 A6m A35 Cmd.run oY y8 A7D A7E A7F A7G A3Y A3Z A3a A3b RR gK gJ gL gM oZ Tj fzS y6 A72 A73 A74 A75 A3L A3M A3N A3O A76 A3P y7 A77 A78 A79 A7A A3Q A3R A3S A3T A7B A3U Xn Oz Xl M8 To1 memF Sy.Sub A0d A4t
attribute [go_sem] ya2 A8E A8e A93 A5P A5j A1d
theorem ck{o:Array Oper}{t:Sy.Trace}(h:Sa o t=true:=by kernel_rfl):Sa o t=true:=h
theorem sL{r0 r:List C}{c:C}(h1:r∈[r0])(h2:c∈r)(h:r0.all C.stor=true:=by simp only[go_sem]):C.stor c=true:=A1e h r h1 c h2
theorem oI{A:Type}{a b:A}(h:some a=some b):b=a:=(Option.some.inj h).symm
theorem nah{p q:Prop}(h:p)(k:¬p:=by decide):q:=absurd h k
theorem KZ{P:Prop}(h:P:=by first|(rename_i h;first|exact oI h|exact nah h)|(rename_i _ h _ g;exact sL h g)|decide|omega):P:=h
inductive Ex where
 |nil
 |mk (k n:Int) (s:List UInt8) (a b:Ex)
inductive Cd where
 |nil
 |mk (k:Int) (a b:Ex) (p q:Cd) (s:List UInt8)
structure Ar where
 p:Bool
 s:List UInt8
 e:Ex
inductive Sm where
 |mk (k:Int) (x y:List UInt8) (e f:Ex) (c:Cd) (args:List Ar) (th el:List Sm) (no:Int)
structure Vr where
 s:List UInt8
 p:Bool
structure Fn where
 name:List UInt8
 ps:List Vr
 ls:List Vr
 body:List Sm
structure Tok where
 k:Int
 t:List UInt8
 p:Int
abbrev dN:D:=.v (.pointer none)
abbrev dI(n:Int):D:=.v (.int .i64 n)
abbrev dS(s:List UInt8):D:=.v (.string (bs s))
abbrev dL0:D:=.v (.slice none 0 0)
def Ex.d:Ex->D
 | .nil=>dN
 | .mk k n s a b=>.pt (some [dI k,dI n,dS s,a.d,b.d])
def Cd.d:Cd->D
 | .nil=>dN
 | .mk k a b p q s=>.pt (some [dI k,a.d,b.d,p.d,q.d,dS s])
def Ar.r(a:Ar):List D:=[.v (.bool a.p),dS a.s,a.e.d]
def zAr:List D:=[.v (.bool false),dS [],dN]
def zSm:List D:=[dI 0,dS [],dS [],dN,dN,dN,dL0,dL0,dL0,dI 0]
mutual
def Sm.r:Sm->List D
 | .mk k x y e f c args th el no=>[dI k,dS x,dS y,e.d,f.d,c.d,.sl zAr (args.map Ar.r),.sl zSm (Sm.rs th),.sl zSm (Sm.rs el),dI no]
def Sm.rs:List Sm->List (List D)
 |[]=>[]
 |s::l=>s.r::Sm.rs l
end
theorem kh:∀l:List Sm,Sm.rs l=l.map Sm.r
 |[]=>by simp[Sm.rs]
 |s::l=>by simp only[Sm.rs,List.map_cons,kh l]
def Vr.r(v:Vr):List D:=[dS v.s,.v (.bool v.p)]
def zVr:List D:=[dS [],.v (.bool false)]
def Fn.r(f:Fn):List D:=[dS f.name,.sl zVr (f.ps.map Vr.r),.sl zVr (f.ls.map Vr.r),.sl zSm (f.body.map Sm.r)]
def zFn:List D:=[dS [],dL0,dL0,dL0]
def Tok.r(x:Tok):List D:=[dI x.k,dS x.t,dI x.p]
def zTk:List D:=[dI 0,dS [],dI 0]
theorem pJ:ByteArray.empty=bs []:=rfl
theorem bs_inj{a b:List UInt8}(h:bs a=bs b):a=b:=by rw[<- I6 a,<- I6 b,h]
theorem Kv:∀{a b:Ex},a.d=b.d->a=b
 | .nil,.nil,_=>rfl
 | .nil,.mk ..,h=>by simp[Ex.d]at h
 | .mk ..,.nil,h=>by simp[Ex.d]at h
 | .mk k n s a b,.mk k' n' s' a' b',h=>by
  simp only[Ex.d,D.pt.injEq,jS,List.cons.injEq,D.v.injEq,Value.int.injEq,Value.string.injEq,true_and,and_true]at h
  obtain⟨rfl,rfl,h1,h2,h3⟩:=h
  rw[bs_inj h1,Kv h2,Kv h3]
theorem Tn:∀{a b:Cd},a.d=b.d->a=b
 | .nil,.nil,_=>rfl
 | .nil,.mk ..,h=>by simp[Cd.d]at h
 | .mk ..,.nil,h=>by simp[Cd.d]at h
 | .mk k a b p q s,.mk k' a' b' p' q' s',h=>by
  simp only[Cd.d,D.pt.injEq,jS,List.cons.injEq,D.v.injEq,Value.int.injEq,Value.string.injEq,true_and,and_true]at h
  obtain⟨rfl,h1,h2,h3,h4,h5⟩:=h
  rw[bs_inj h5,Kv h1,Kv h2,Tn h3,Tn h4]
theorem Ac{A B:Type}{f:A->B}(hf:∀a b,f a=f b->a=b):∀{l m:List A},l.map f=m.map f->l=m
 |[],[],_=>rfl
 |[],_::_,h=>by simp at h
 |_::_,[],h=>by simp at h
 |a::l,b::m,h=>by
  simp only[List.map_cons,List.cons.injEq]at h
  rw[hf _ _ h.1,Ac hf h.2]
theorem ki(a b:Ar)(h:a.r=b.r):a=b:=by
 obtain⟨p,s,e⟩:=a
 obtain⟨p',s',e'⟩:=b
 simp only[Ar.r,List.cons.injEq,D.v.injEq,Value.bool.injEq,Value.string.injEq,and_true]at h
 obtain⟨rfl,h1,h2⟩:=h
 rw[bs_inj h1,Kv h2]
mutual
theorem MY:∀(a b:Sm),a.r=b.r->a=b
 | .mk k x y e f c args th el no,.mk k' x' y' e' f' c' args' th' el' no',h=>by
  simp only[Sm.r,List.cons.injEq,D.v.injEq,D.sl.injEq,Value.int.injEq,Value.string.injEq,true_and,and_true]at h
  obtain⟨rfl,h1,h2,h3,h4,h5,h6,h7,h8,rfl⟩:=h
  rw[bs_inj h1,bs_inj h2,Kv h3,Kv h4,Tn h5,Ac ki h6,Xu th th' h7,Xu el el' h8]
theorem Xu:∀(l m:List Sm),Sm.rs l=Sm.rs m->l=m
 |[],[],_=>rfl
 |[],_::_,h=>by simp[Sm.rs]at h
 |_::_,[],h=>by simp[Sm.rs]at h
 |a::l,b::m,h=>by
  simp only[Sm.rs,List.cons.injEq]at h
  rw[MY a b h.1,Xu l m h.2]
end
theorem OU(a b:Vr)(h:a.r=b.r):a=b:=by
 obtain⟨s,p⟩:=a
 obtain⟨s',p'⟩:=b
 simp only[Vr.r,List.cons.injEq,D.v.injEq,Value.bool.injEq,Value.string.injEq,and_true]at h
 rw[bs_inj h.1,h.2]
theorem W9(a b:Fn)(h:a.r=b.r):a=b:=by
 obtain⟨n,ps,ls,bd⟩:=a
 obtain⟨n',ps',ls',bd'⟩:=b
 simp only[Fn.r,List.cons.injEq,D.v.injEq,D.sl.injEq,Value.string.injEq,true_and,and_true]at h
 rw[bs_inj h.1,Ac OU h.2.1,Ac OU h.2.2.1,Ac MY h.2.2.2]
theorem kj(a b:Tok)(h:a.r=b.r):a=b:=by
 obtain⟨s,p,q⟩:=a
 obtain⟨s',p',q'⟩:=b
 simp only[Tok.r,List.cons.injEq,D.v.injEq,Value.int.injEq,Value.string.injEq,and_true,true_and]at h
 rw[h.1,bs_inj h.2.1,h.2.2]
theorem bM(d:D):toD (oD d)=some d:=by cases d<;>rfl
theorem dz(d:D):Ew (oD d)=true:=by cases d<;>rfl
theorem kl(n:Nat)(d:D):Iv n (oD d)=true:=by cases d<;>rfl
theorem km(f:Nat->Nat)(d:D):G5 f (oD d)=oD d:=by cases d<;>rfl
theorem qt(k t:Nat)(d:D):mvC k t (oD d)=oD d:=by cases d<;>rfl
theorem qu(k:Nat)(z:List D)(es:List (List D))(d:D):fzC k z es (oD d)=oD d:=by cases d<;>rfl
theorem kv(k u:Nat)(p:List (Nat×Nat))(i j:Nat)(d:D)(r:List C):ldc k u p i j (oD d::r)=oD d::ldc k u p i (j+1) r:=by cases d<;>rfl
def Ex.isNil:Ex->Bool
 | .nil=>true
 |_=>false
def Cd.isNil:Cd->Bool
 | .nil=>true
 |_=>false
def exC(e:Ex):C:=oD e.d
theorem A65(e:Ex):oD e.d=exC e:=rfl
theorem bN(e:Ex):toD (exC e)=some e.d:=bM _
theorem wR(e:Ex):Ew (exC e)=true:=dz _
theorem Xv(e:Ex):C.stor (exC e)=true:=Nc _
theorem Lt(e:Ex):C.names (exC e)=[]:=RJ _
theorem bO(n:Nat)(e:Ex):Iv n (exC e)=true:=kl n _
theorem A1f(f:Nat->Nat)(e:Ex):G5 f (exC e)=exC e:=km f _
theorem A66(k t:Nat)(e:Ex):mvC k t (exC e)=exC e:=qt k t _
theorem A67(k:Nat)(z:List D)(es:List (List D))(e:Ex):fzC k z es (exC e)=exC e:=qu k z es _
theorem A1g(k u:Nat)(p:List (Nat×Nat))(i j:Nat)(e:Ex)(r:List C):ldc k u p i j (exC e::r)=exC e::ldc k u p i (j+1) r:=kv ..
theorem wS(e:Ex):LL (exC e)=some e.isNil:=by cases e<;>rfl
theorem BQ:exC .nil= .v (.pointer none):=rfl
def cdC(e:Cd):C:=oD e.d
theorem A68(e:Cd):oD e.d=cdC e:=rfl
theorem kw(e:Cd):toD (cdC e)=some e.d:=bM _
theorem wT(e:Cd):Ew (cdC e)=true:=dz _
theorem eA(e:Cd):C.stor (cdC e)=true:=Nc _
theorem Rb(e:Cd):C.names (cdC e)=[]:=RJ _
theorem bP(n:Nat)(e:Cd):Iv n (cdC e)=true:=kl n _
theorem A1h(f:Nat->Nat)(e:Cd):G5 f (cdC e)=cdC e:=km f _
theorem A69(k t:Nat)(e:Cd):mvC k t (cdC e)=cdC e:=qt k t _
theorem A6A(k:Nat)(z:List D)(es:List (List D))(e:Cd):fzC k z es (cdC e)=cdC e:=qu k z es _
theorem A1i(k u:Nat)(p:List (Nat×Nat))(i j:Nat)(e:Cd)(r:List C):ldc k u p i j (cdC e::r)=cdC e::ldc k u p i (j+1) r:=kv ..
theorem wU(e:Cd):LL (cdC e)=some e.isNil:=by cases e<;>rfl
theorem Bw:cdC .nil= .v (.pointer none):=rfl
theorem EN(k n:Int)(s:List UInt8)(a b:Ex):exC (.mk k n s a b)= .d (.pt (some [.v (.int .i64 k),.v (.int .i64 n),.v (.string (bs s)),a.d,b.d])):=rfl
theorem E3(k:Int)(a b:Ex)(p q:Cd)(s:List UInt8):cdC (.mk k a b p q s)= .d (.pt (some [.v (.int .i64 k),a.d,b.d,p.d,q.d,.v (.string (bs s))])):=rfl
theorem H4:Ex.d .nil= .v (.pointer none):=rfl
theorem QT:Cd.d .nil= .v (.pointer none):=rfl
structure Pr where
 l:List Tok
 i:Int
 en:Int
 e:Int
 at':Int
 deep:Int
 n:Int
theorem AQ(p:Pr):(⟨p.l,p.i,p.en,p.e,p.at',p.deep,p.n⟩:Pr)=p:=rfl
def Pr.r(p:Pr):List D:=[.sl zTk (p.l.map Tok.r),dI p.i,dI p.en,dI p.e,dI p.at',dI p.deep,dI p.n]
def Pr.c(p:Pr):List C:=[.d (.sl zTk (p.l.map Tok.r)),.v (.int .i64 p.i),.v (.int .i64 p.en),.v (.int .i64 p.e),.v (.int .i64 p.at'),.v (.int .i64 p.deep),.v (.int .i64 p.n)]
def A1j:List D:=[dL0,dI 0,dI 0,dI 0,dI 0,dI 0,dI 0]
abbrev zPr:List C:=[.v (.int .i64 0),.v (.int .i64 0),.v (.int .i64 0),.v (.int .i64 0),.v (.int .i64 0),.v (.int .i64 0),.v (.int .i64 0)]
theorem wV(a b:Pr)(h:a.r=b.r):a=b:=by
 obtain⟨l,i,en,e,at',deep,n⟩:=a
 obtain⟨l',i',en',e',at2,deep',n'⟩:=b
 simp only[Pr.r,List.cons.injEq,D.v.injEq,D.sl.injEq,Value.int.injEq,true_and,and_true]at h
 obtain⟨h1,rfl,rfl,rfl,rfl,rfl,rfl⟩:=h
 rw[Ac kj h1]
theorem wW(a b:Pr)(h:a.c=b.c):a=b:=by
 obtain⟨l,i,en,e,at',deep,n⟩:=a
 obtain⟨l',i',en',e',at2,deep',n'⟩:=b
 simp only[Pr.c,List.cons.injEq,C.v.injEq,C.d.injEq,D.sl.injEq,Value.int.injEq,true_and,and_true]at h
 obtain⟨h1,rfl,rfl,rfl,rfl,rfl,rfl⟩:=h
 rw[Ac kj h1]
noncomputable def rPr:RowC Pr:=rowOf A1j Pr.r wV λ_=>rfl
theorem WA(p:Pr):∀c∈p.c,c.names=[]:=by
 intro c hc
 simp only[Pr.c,List.mem_cons,List.not_mem_nil,or_false]at hc
 rcases hc with rfl|rfl|rfl|rfl|rfl|rfl|rfl<;>rfl
noncomputable def mPr:RowM Pr:=MH zPr Pr.c WA
theorem qv:rPr.z=A1j:=rfl
theorem qw:rPr.e=Pr.r:=rfl
theorem An(l:List Tok)(i en e at' deep n:Int):rPr.d [.sl zTk (l.map Tok.r),dI i,dI en,dI e,dI at',dI deep,dI n]=some ⟨l,i,en,e,at',deep,n⟩:=rPr.i ⟨l,i,en,e,at',deep,n⟩
theorem Ao:mPr.z=zPr:=rfl
theorem Ap:mPr.e=Pr.c:=rfl
theorem Aq(l:List Tok)(i en e at' deep n:Int):mPr.d [.d (.sl zTk (l.map Tok.r)),.v (.int .i64 i),.v (.int .i64 en),.v (.int .i64 e),.v (.int .i64 at'),.v (.int .i64 deep),.v (.int .i64 n)]=some ⟨l,i,en,e,at',deep,n⟩:=J9 wW ⟨l,i,en,e,at',deep,n⟩
theorem A1k(p:Pr):∀q,some q∈[some ((zPr,[p.c]):MV)]->∀r∈q.2,∀c∈r,c.names=[]:=by
 intro q hq r hr c hc
 simp only[mem_singleton,jS]at hq
 subst hq
 simp only[mem_singleton]at hr
 subst hr
 exact WA p c hc
abbrev tk0:Tok:=⟨0,[],0⟩
theorem wX(l:List Tok)(i:Nat):(l.map Tok.r).getD i zTk=Tok.r (l.getD i tk0):=by
 simp only[List.getD,List.getElem?_map]
 cases l[i]?<;>rfl
attribute [go_sem] A65 bN wR Xv Lt A1f A66 A67 A1g wS A68 kw wT eA Rb A1h A69 A6A A1i wU dI dL0 dN dS pJ bM
open Go Go.Sy Go.RowKit
abbrev Dr(l:List UInt8):Prop:=l.length<=4294967296
def Lu(b:Int):Bool:=decide (97<=b)&&decide (b<=122)||(decide (65<=b)&&decide (b<=90))||b==95
def Ep(b:Int):Bool:=decide (48<=b)&&decide (b<=57)
abbrev chI(l:List UInt8)(i:Nat):Int:=((l.getD i 0).toNat:Int)
def idB(b:Int):Bool:=Lu b||Ep b
def GQ(x:Tok):List C:=[.v (.int .i64 x.k),.v (.string (bs x.t)),.v (.int .i64 x.p)]
def A1l(x:Tok):List D:=[.v (.int .i64 x.k),.v (.string (bs x.t)),.v (.int .i64 x.p)]
def FN:List C:=[.v (.int .i64 0),.v (.string ByteArray.empty),.v (.int .i64 0)]
theorem A1m:zT FN=none:=rfl
attribute [go_sem] A1m
def MC:List D:=[.v (.int .i64 0),.v (.string ByteArray.empty),.v (.int .i64 0)]
theorem wY(u:Nat)(z:List C)(l:List Tok):chNames (.vec u z (l.map GQ))=[]:=bL GQ (by intro a c hc;simp only[GQ,List.mem_cons,List.not_mem_nil,or_false]at hc;rcases hc with rfl|rfl|rfl<;>rfl) u z l
theorem Dx(l:List Tok):List.flatMap (λr=>List.flatMap C.names r) (l.map GQ)=[]:=wY 0 [] l
theorem kx(l:List Tok):ES (l.map GQ)=some (l.map A1l):=He GQ (λ_=>rfl) l
theorem Ni(k t:Nat)(l:List Tok):(l.map GQ).map (λr=>r.map (mvC k t))=l.map GQ:=HP GQ (λ_=>rfl) l
def MD(r:List Tok×Int×Int):SV:=.tup [.inl (.d (.sl MC (r.1.map A1l))),.inl (.v (.int .i64 r.2.1)),.inl (.v (.int .i64 r.2.2))]
def OV(l:List UInt8)(c:Int):Bool:=l.any λb=>((b.toNat:Nat):Int)==c
theorem wZ{l:List UInt8}{i:Nat}(h:i<l.length)(c:Int):OV (l.drop i) c=(((l.getD i 0).toNat:Int)==c||OV (l.drop (i+1)) c):=by
 rw[List.drop_eq_getElem_cons h]
 simp only[OV,List.any_cons,List.getD,List.getElem?_eq_getElem h,Option.getD_some]
def blB(c:Int):Bool:=c==32||c==9||c==13||c==10
def nlB(c:Int):Bool:=!(c==10)
def dgF:List UInt8->Int->Bool->Int×Bool
 |[],n,g=>(n,g)
 |b::r,n,g=>if Ep (b.toNat:Int)=true then (if decide (922337203685477580<n)=true then dgF r n true else dgF r (IntKind.u64.wrap (IntKind.u64.wrap (10*n)+IntKind.u64.wrap (IntKind.u8.wrap ((b.toNat:Int)-48)))) g) else (n,g)
theorem A1n{l:List UInt8}{i:Nat}(h:i<l.length)(n:Int)(g:Bool):dgF (l.drop i) n g=if Ep (chI l i)=true then (if decide (922337203685477580<n)=true then dgF (l.drop (i+1)) n true else dgF (l.drop (i+1)) (IntKind.u64.wrap (IntKind.u64.wrap (10*n)+IntKind.u64.wrap (IntKind.u8.wrap (chI l i-48)))) g) else (n,g):=by
 rw[List.drop_eq_getElem_cons h]
 simp only[dgF,chI,List.getD,List.getElem?_eq_getElem h,Option.getD_some]
theorem wa{l:List UInt8}{i:Nat}(h:l.length<=i)(n:Int)(g:Bool):dgF (l.drop i) n g=(n,g):=by
 rw[List.drop_eq_nil_of_le h];rfl
def Xw(l:List UInt8):Bool:=(dgF l 0 false).2||decide (9223372036854775807<(dgF l 0 false).1)
def gX(s:List UInt8)(i:Nat):Bool:=decide (((i+2:Nat):Int)<=(s.length:Int))&&((s.drop i).take 2==[61,61]||(s.drop i).take 2==[33,61]||(s.drop i).take 2==[60,61]||(s.drop i).take 2==[62,61]||(s.drop i).take 2==[38,38]||(s.drop i).take 2==[124,124])
abbrev WB:List UInt8:=[61,60,62,43,45,42,47,37,38,33,40,41,123,125,91,93,44,59]
def rxF(s:List UInt8):Nat->Nat->List Tok->List Tok×Int×Int
 |0,_,out=>(out,0,0)
 |f+1,i,out=>
  if s.length<=i then (out,0,0)
  else if blB (chI s i)=true then rxF s f (i+1) out
  else if (chI s i==35)=true then rxF s f (i+Dg nlB (s.drop i)) out
  else if Lu (chI s i)=true then (if decide (32<((Dg idB (s.drop i):Nat):Int))=true then ([],(i:Int),53) else rxF s f (i+Dg idB (s.drop i)) (out++[⟨0,(s.drop i).take (Dg idB (s.drop i)),(i:Int)⟩]))
  else if Ep (chI s i)=true then
   (
    if Xw (s.drop i)=true then ([],(i:Int),53)
    else if (decide (((i+Dg Ep (s.drop i):Nat):Int)<(s.length:Int))&&Lu (chI s (i+Dg Ep (s.drop i)))||(chI s i==48&&decide (1<((Dg Ep (s.drop i):Nat):Int))))=true then ([],(i:Int),50)
    else rxF s f (i+Dg Ep (s.drop i)) (out++[⟨1,(s.drop i).take (Dg Ep (s.drop i)),(i:Int)⟩]))
  else if gX s i=true then rxF s f (i+2) (out++[⟨2,(s.drop i).take 2,(i:Int)⟩])
  else if OV WB (chI s i)=true then rxF s f (i+1) (out++[⟨2,(s.drop i).take 1,(i:Int)⟩])
  else ([],(i:Int),50)
def rxT(s:List UInt8):List Tok×Int×Int:=if decide (4096<(s.length:Int))=true then ([],0,53) else rxF s s.length 0 []
abbrev rxI(s:List UInt8)(i:Nat)(out:List Tok):St:=⟨[(0,true,.one (.v (.string (bs s)))),(5,true,.one (.s 1000)),(6,true,.one (.v (.int .i64 (i:Int))))],[(1000,.vec 0 FN (out.map GQ))]⟩
abbrev rxJ(s:List UInt8)(i:Nat)(out:List Tok):Prop:=i<=s.length/\out.length<=i/\∃f,s.length-i<=f/\rxF s f i out=rxT s
theorem A6B(h:(!b)=true):b=false:=by cases b<;>simp_all
theorem A6C(h:(!b)=false):b=true:=by cases b<;>simp_all
theorem qx{a:Bool}(h:(a&&b)=true):a=true:=by cases a<;>simp_all
end Go.Proofs.YtapedeoheilnnaaGreat
