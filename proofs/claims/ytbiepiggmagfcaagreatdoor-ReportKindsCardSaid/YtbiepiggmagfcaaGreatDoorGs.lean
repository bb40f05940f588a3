/- The rules of the walks, in one set. No conditions but those in each statement. -/
import Derived.Test.YtbiepiggmagfcaaGreatDoorSy28
import Derived.Test.YtbiepiggmagfcaaGreatDoorTy2
import Derived.Test.YtbiepiggmagfcaaGreatDoorSy30
import Derived.Test.YtbiepiggmagfcaaGreatDoorTie
import Derived.Shelf.Strings.OnBuilder
import Derived.Shelf.Lay
import Derived.Shelf.LaysM
set_option linter.unusedVariables false
set_option linter.unusedSimpArgs false
namespace Go.Proofs.YtbiepiggmagfcaaGreatDoor
open Go Go.Sy Go.RowKit
set_option linter.defProp false in
def eB:=And.intro @e_nil (And.intro @e_cons (And.intro @e_text (And.intro @e_draw (And.intro @e_seq (And.intro @e_block (And.intro @e_then1 (And.intro @e_then2 (And.intro @e_then3 (And.intro @e_in1 (And.intro @e_in2 (And.intro @e_in3 (And.intro @e_nrmK (And.intro @e_drawK (And.intro @e_seqK (And.intro @e_ret (And.intro @e_skip (And.intro @e_label (And.intro @e_exit (And.intro @e_cond (And.intro @e_loop (And.intro @e_impBt (And.intro @e_impBf (And.intro @e_impNt @e_impNf)))))))))))))))))))))))
theorem storL1 {r0:List C} (h:r0.all C.stor=true):∀r∈[r0],∀c∈r,C.stor c=true:=by
 intro r h1 c h2
 rw[List.mem_singleton]at h1
 subst h1
 exact List.all_eq_true.1 h c h2
attribute [go_sem] e_step e_gh e_condK e_retQ1 e_retQ2 e_ex e_guard0 gh_nil ghOf run_nil runCs argE opG guarded slotOf dstLt guardOf opS fresh rV opMove opPick opAlloc opBox opBuild opBuildSlice opMakeSlice opLoad opStore ptrG ptrA opFieldAddr opField opIndexAddr opIndex boI opSlice opExtract opConvert opConvB rowsN getP inP setP ni_n ni_p ni_dn ni_d ni_dp ni_pp ni_s ni_any nilBin opBin unV opUn okPtr opNil lenC srcR srcZ opAppend opBuiltin opCall opCallV fnSV okCap findS reads readG readA readAG readO readOG fillC setAll chop repl anyN tgN sA_sv sQ_sv tS_sv sA_d sQ_d tS_d sA_df sQ_df tS_df sA_s sQ_s tS_s sA_st sQ_st tS_st zT_nil zT_any zT_v zT_p zT_s zT_dsl zT_dpt zT_df zT_dp zT_ov zT_fn zT_tg ldc ldV cl_any cl_v cl_p cl_s cl_d cl_df cl_dp cl_fn cl_vw cl_q cl_ov clL clos oD_v oD_sl oD_pt binV eqL eqC cmpI arI strI rdv rdg okV lkp St.app addL addS ofV SV.tupB SV.cells st_any st_v st_p st_s st_d st_df st_dp st_fn st_vw st_q st_ov C.flat oneV resAll resOne resV noTup toP updH capN List.getElem?_nil mk_bs bs_toList cStr_d cStr_e dStr specM_f specM_fn spM_some am0_d amD_d amP_d amS_d pairM_some pairN_some ptrD slcD decM ndB updM bumpC renV rn_any rn_v rn_p rn_s rn_d rn_df rn_dp rn_fn rn_vw rn_q rn_ov nmM chO memH memO am0_a amD_a amP_a amS_a am0_m amD_m amP_m amS_m dropTake take_len bq_nn bq_cn bq_nc bq_cc Nat.sub_zero dec_T dec_F specD_f specD_fn specG_f specG_fn specR_f specR_fn spFnH_some ahS_d ah0_d ahS_e ah0_e pairF_some CodH_d CodH_e cSl_d cSl_e slR slD decL decL_map toD toDs toDss List.length_map Int.toNat_natCast Int.natCast_nonneg acS_d ac0_d acS_e ac0_e pairO_some spFn_some cIntY_d cBoolY_d cIntY_e cBoolY_e dInt dBool bsel_true bsel_false Option.map_some Option.getD_some Option.getD_none Option.map_none Option.bind_some List.all_cons List.all_nil Bool.and_true Bool.true_and Bool.and_self Bool.not_not true_and and_true and_self true_or or_true forall_const true_implies imp_self implies_true List.getElem?_cons_zero List.getElem?_cons_succ List.getElem?_toArray List.length_cons List.length_nil List.map_cons List.map_nil List.set_cons_zero List.set_cons_succ List.length_set List.drop_zero List.drop_succ_cons List.take_succ_cons List.take_zero List.getD_cons_zero List.getD_cons_succ ne_eq not_false_eq_true Nat.le_refl Int.toNat_zero Nat.zero_mul Nat.zero_add Nat.add_zero Nat.one_mul Bool.false_eq_true Bool.not_false Bool.not_true Bool.or_false Bool.false_or Bool.or_true Bool.true_or Bool.and_false Bool.false_and Bool.not_eq_false' Bool.not_eq_true' Bool.or_self wrap_i64 wrap_u64 wrap_u8 Int.natCast_zero Int.natCast_one Int.cast_ofNat_Int Int.lt_irrefl decide_false decide_true Nat.lt_irrefl Nat.lt_add_one Int.toNat_one List.take_nil List.drop_nil List.flatMap_cons List.flatMap_nil List.append_nil List.nil_append List.cons_append List.append_eq List.any_nil List.any_cons List.contains_cons List.contains_nil nm_any nm_v nm_p nm_s nm_d nm_df nm_dp nm_fn nm_vw nm_q nm_ov SV.names pNames List.mem_cons List.not_mem_nil or_false forall_eq forall_eq_or_imp and_imp false_implies List.mem_singleton not_true_eq_false if_true if_false e_RESL e_RESML leV leL leT leP leC_same leC_nil optCh sameCh domB chNames noVw nv_any nv_v nv_p nv_s nv_d nv_df nv_dp nv_fn nv_vw nv_q nv_ov Cmd.run foldC foldD nilC' nilR' unrC closB fzS fz_any fz_v fz_p fz_s fz_d fz_df fz_dp fz_fn fz_vw fz_q fz_ov mv_any mv_v mv_p mv_s mv_d mv_df mv_dp mv_fn mv_vw mv_q mv_ov mapE mapHl mapV mapCh To1 memF Sy.Sub e_ret0 e_RES
attribute [go_sem] ya2 ys2 yby2 yz2 yi2 ya3 ys3 yby3 yz3 yi3 ya4 ys4 yby4 yz4 yb4 ya5 ys5 yby5 yz5 yi5 yf7_0 yf7_1 yf7_2 yf7_3 ya9 ys9 yby9 yz9 yst9 yf13_0 yf13_1 yf18_0 ya22 ys22 yby22 yz22 ye22 ya25 ys25 yby25 yz25 ye25 ya26 ys26 yby26 yz26 ye26 ya27 ys27 yby27 yz27 yf27_0 yf27_1 yf27_2 yf27_3 yp27 ya28 ys28 yby28 yz28 yf28_0 yf28_1 yf28_2 yf28_3 yp28 ya32 ys32 yby32 yz32 ye32 ya33 ys33 yby33 yz33 ye33 ya34 ys34 yby34 yz34 yf34_0 yf34_1 yp34 ya35 ys35 yby35 yz35 yf35_0 yf35_1 yp35 ya43 ys43 yby43 yz43 ye43 ya45 ys45 yby45 yz45 yf45_0 yf45_1 yp45 ya46 ys46 yby46 yz46 yf46_0 yf46_1 yp46 yq46 ya48 ys48 yby48 yz48 ye48 ya49 ys49 yby49 yz49 ye49 ya50 ys50 yby50 yz50 ye50 ya51 ys51 yby51 yz51 yf51_0 yf51_1 yf51_2 yp51 ya52 ys52 yby52 yz52 yf52_0 yf52_1 yf52_2 yp52 yq52 ya53 ys53 yby53 yz53 ye53 ya54 ys54 yby54 yz54 yf54_0 yf54_1 yf54_2 yf54_3 yp54 ya55 ys55 yby55 yz55 yf55_0 yf55_1 yf55_2 yf55_3 yp55 ya56 ys56 yby56 yz56 yf56_0 yf56_1 yp56 ya57 ys57 yby57 yz57 yf57_0 yf57_1 yp57 ya63 ys63 yby63 yz63 yf63_0 yf63_1 yp63 ya64 ys64 yby64 yz64 yf64_0 yf64_1 yp64 yq64 ya65 ys65 yby65 yz65 yf65_0 yf65_1 yf65_2 yp65 ya66 ys66 yby66 yz66 yf66_0 yf66_1 yf66_2 yp66 yq66 ya68 ys68 yby68 yz68 ypt68 ya69 ys69 yby69 yz69 yf69_0 yf69_1 yf69_2 yf69_3 yf69_4 yp69 ya70 ys70 yby70 yz70 yf70_0 yf70_1 yf70_2 yf70_3 yf70_4 yp70 ya73 ys73 yby73 yz73 ypt73 ya74 ys74 yby74 yz74 yf74_0 yf74_1 yf74_2 yf74_3 yf74_4 yf74_5 yp74 ya75 ys75 yby75 yz75 yf75_0 yf75_1 yf75_2 yf75_3 yf75_4 yf75_5 yp75 ya76 ys76 yby76 yz76 ye76 ya79 ys79 yby79 yz79 ypt79 ya80 ys80 yby80 yz80 yf80_0 yf80_1 yf80_2 yf80_3 yf80_4 yf80_5 yf80_6 yp80 ya81 ys81 yby81 yz81 yf81_0 yf81_1 yf81_2 yf81_3 yf81_4 yf81_5 yf81_6 yp81 ya88 ys88 yby88 yz88 ypt88 ya89 ys89 yby89 yz89 yf89_0 yf89_1 yf89_2 yp89 ya90 ys90 yby90 yz90 yf90_0 yf90_1 yf90_2 yp90 ya93 ys93 yby93 yz93 yf93_0 yf93_1 yf93_2 yp93 ya94 ys94 yby94 yz94 yf94_0 yf94_1 yf94_2 yp94 yq94 ya96 ys96 yby96 yz96 yf96_0 yf96_1 yp96 ya97 ys97 yby97 yz97 yf97_0 yf97_1 yp97 yq97 ya98 ys98 yby98 yz98 ye98 ya99 ys99 yby99 yz99 yf99_0 yf99_1 yp99 ya100 ys100 yby100 yz100 yf100_0 yf100_1 yp100 ya102 ys102 yby102 yz102 yf102_0 yf102_1 yp102 ya103 ys103 yby103 yz103 yf103_0 yf103_1 yp103 yq103 ya104 ys104 yby104 yz104 ye104 ya105 ys105 yby105 yz105 ypt105 ya106 ys106 yby106 yz106 yf106_0 yf106_1 yp106 ya107 ys107 yby107 yz107 yf107_0 yf107_1 yp107 ya108 ys108 yby108 yz108 yf108_0 yf108_1 yp108 ya109 ys109 yby109 yz109 yf109_0 yf109_1 yp109 ya110 ys110 yby110 yz110 yf110_0 yp110 ya111 ys111 yby111 yz111 yf111_0 yp111 ya112 ys112 yby112 yz112 yf112_0 yf112_1 yp112 ya113 ys113 yby113 yz113 yf113_0 yf113_1 yp113 yq113 ya119 ys119 yby119 yz119 ypt119 ya121 ys121 yby121 yz121 yf121_0 yp121 ya122 ys122 yby122 yz122 yf122_0 yp122 ya123 ys123 yby123 yz123 yf123_0 yf123_1 yf123_2 yp123 ya124 ys124 yby124 yz124 yf124_0 yf124_1 yf124_2 yp124 ya139 ys139 yby139 yz139 yi139 ya141 ys141 yby141 yz141 ye141 ya142 ys142 yby142 yz142 yf142_0 yf142_1 yf142_2 yf142_3 yf142_4 yf142_5 yf142_6 yf142_7 yf142_8 yf142_9 yp142 ya143 ys143 yby143 yz143 yf143_0 yf143_1 yf143_2 yf143_3 yf143_4 yf143_5 yf143_6 yf143_7 yf143_8 yf143_9 yp143 ya167 ys167 yby167 yz167 yf167_0 yf167_1 yf167_2 yp167 ya168 ys168 yby168 yz168 yf168_0 yf168_1 yf168_2 yp168 yf201_0 yf201_1 yf202_0 yf202_1 yf208_0 yf208_1 yf208_2 yf208_3 yf211_0 yf218_0 yf218_1 yf218_2 yf218_3 yf218_4 yf218_5 yf218_6 yf218_7 yf218_8 yf218_9 yf218_10 ya220 ys220 yby220 yz220 yf220_0 yf220_1 yp220 ya221 ys221 yby221 yz221 yf221_0 yf221_1 yp221
theorem ck {o:Array Oper} {t:Sy.Trace} (h:chkT o t=true:=by kernel_rfl):chkT o t=true:=h
theorem sL {r0 r:List C} {c:C} (h1:r∈[r0]) (h2:c∈r) (h:r0.all C.stor=true:=by simp only[go_sem]):C.stor c=true:=storL1 h r h1 c h2
theorem oI {A:Type} {a b:A} (h:some a=some b):b=a:=(Option.some.inj h).symm
theorem nah {p q:Prop} (h:p) (k:¬p:=by decide):q:=absurd h k
end Go.Proofs.YtbiepiggmagfcaaGreatDoor
namespace Go.Proofs
open Go.Shelf
 shelf_lay Lays.n156 Nm 156 at Tryz as Tryz.lays156
end Go.Proofs
namespace Go.Proofs.YtbiepiggmagfcaaGreatDoor
open Go Go.Sy Go.Shelf Go.RowKit
section
variable {P:Program} {ρ:Ren}
set_option maxHeartbeats 1000000 in
set_option maxRecDepth 100000 in
theorem cc_fresh (L:Lays.n240 P ρ) (X:Builder.X72 P ρ) (b:Nat) (w:World) (T:TypeId) (n:Nat) (h0:w.cell? ⟨b,0,none⟩=some (.pointer none)) (hsh:w.shape? b=some (T,n)) (hn:0<n) (hlies:liesAt P P.depth T (n / P.cellsOf T) 0 (ρ.t 72) 1=true) (hfz:w.frozen? ⟨b,0,none⟩=false) :
  Calls P (ρ.f 240) #[.pointer (some ⟨b,0,none⟩)] w fun e w'=>e= .returned (.tuple #[])∧w'=w.setCell ⟨b,0,none⟩ (.pointer (some ⟨b,0,none⟩)):=by
 obtain⟨j,hj,hjs⟩:=Option.map_eq_some_iff.1 X.sizeBuilder
 have mixed:=L.mixed
 have t72:=L.t72;have a72:=L.a72;have z72:=L.z72;have v72:=L.v72;have u72:=run_underlying L.t72
 have t70:=L.t70;have a70:=L.a70;have z70:=L.z70;have v70:=L.v70;have u70:=run_underlying L.t70
 have t9:=L.t9;have a9:=L.a9;have z9:=L.z9;have v9:=L.v9;have u9:=run_underlying L.t9
 have t4:=L.t4;have a4:=L.a4;have z4:=L.z4;have v4:=L.v4;have u4:=run_underlying L.t4
 have t164:=L.t164;have a164:=L.a164;have z164:=L.z164;have v164:=L.v164;have u164:=run_underlying L.t164
 go_enter L.f240,Body.n240_ntmps ρ
 go_wp2
 rw[Lib.run_to_unsafe w ⟨b,0,none⟩ L.t70 L.t164 hj (by rw[hjs];decide) hsh hn]
 simp only[Result.andThen]
 rw[Oper.upon_value]
 go_wp2
 rw[run_callFunc_extern L.f276 (by kernel_rfl) (by kernel_rfl) (by kernel_rfl) (e:=Extern.AbiNoEscape.same) (by kernel_rfl),Lib.run_noEscape]
 simp only[Result.andThen]
 rw[Oper.upon_value]
 go_wp2
 rw[Lib.run_from_unsafe w ⟨b,0,none⟩ L.t164 L.t70 hj hsh hlies]
 simp only[Result.andThen]
 rw[Oper.upon_value]
 go_wp2
 go_end0
 exact⟨rfl,rfl⟩
set_option maxHeartbeats 2000000 in
set_option maxRecDepth 100000 in
theorem sb_plain (L:Lays.n169 P ρ) (X:Builder.Extra P ρ) (b:Nat) (w w2:World) (ad:Option Addr) (n c:Nat) (q:Value) (r:ByteArray) (c1:w.drew.cell? ⟨b,1,none⟩=some (.slice ad n c))
  (hSD:(Builtin.unsafeSliceData_ #[(ρ.t 37)] (ρ.t 127) #[.slice ad n c]).run P w.drew= .ok q w.drew) (hUS:(Builtin.unsafeString_ #[(ρ.t 127),(ρ.t 3)] (ρ.t 9) #[q,.int .i64 n]).run P w.drew= .ok (.string r) w2) :
  Calls P (ρ.f 169) #[.pointer (some ⟨b,0,none⟩)] w fun e w'=>e= .returned (.string r)∧w'=w2:=by
 have mixed:=L.mixed
 have t72:=L.t72;have a72:=L.a72;have z72:=L.z72;have v72:=L.v72;have u72:=run_underlying L.t72
 have t70:=L.t70;have a70:=L.a70;have z70:=L.z70;have v70:=L.v70;have u70:=run_underlying L.t70
 have t37:=L.t37;have a37:=L.a37;have z37:=L.z37;have v37:=L.v37;have u37:=run_underlying L.t37
 have t127:=L.t127;have a127:=L.a127;have z127:=L.z127;have v127:=L.v127;have u127:=run_underlying L.t127
 have t3:=L.t3;have a3:=L.a3;have z3:=L.z3;have v3:=L.v3;have u3:=run_underlying L.t3
 have t9:=L.t9;have a9:=L.a9;have z9:=L.z9;have v9:=L.v9;have u9:=run_underlying L.t9
 have t5:=X.t5;have a5:=X.a5;have z5:=X.z5;have v5:=X.v5;have u5:=run_underlying X.t5
 go_enter L.f169,Body.n169_ntmps ρ
 go_wp2
 go_region_o
 all_goals (go_wp2;go_ret;exact⟨rfl,rfl⟩)
set_option maxHeartbeats 2000000 in
set_option maxRecDepth 100000 in
theorem sb_zero (L:Lays.n169 P ρ) (X:Builder.Extra P ρ) (b g:Nat) (w:World) (T:TypeId) (k:Nat) (hb:b<w.heap.size) (c0:w.cell? ⟨b,1,none⟩=some (.slice (some ⟨g,0,none⟩) 0 0)) (hg:w.shape? g=some (T,k)) :
  Calls P (ρ.f 169) #[.pointer (some ⟨b,0,none⟩)] w fun e w'=>e= .returned (.string ⟨#[]⟩)∧w'=w.drew.alloc (.view ⟨g,0,none⟩ (ρ.t 5)):=by
 have hUS:=Any.unsafeString_none L X
 have c1:w.drew.cell? ⟨b,1,none⟩=some (.slice (some ⟨g,0,none⟩) 0 0):=c0
 have hSD:(Builtin.unsafeSliceData_ #[(ρ.t 37)] (ρ.t 127) #[.slice (some ⟨g,0,none⟩) 0 0]).run P w.drew= .ok (.pointer (some ⟨w.drew.heap.size,0,none⟩)) (w.drew.alloc (.view ⟨g,0,none⟩ (ρ.t 5))):=
  Lib.run_unsafeSliceData_zero w.drew _ _ (ρ.t 5) L.t127 ⟨g,0,none⟩ 0 (T,k) hg
 have c2:(w.drew.alloc (.view ⟨g,0,none⟩ (ρ.t 5))).cell? ⟨b,1,none⟩=some (.slice (some ⟨g,0,none⟩) 0 0):=by
  rw[← c1]
  have:(w.drew.alloc (.view ⟨g,0,none⟩ (ρ.t 5))).heap[b]?=w.drew.heap[b]?:=Lib.alloc_old w.drew _ b hb
  simp only[World.cell?,this]
 have c3:(w.alloc (.view ⟨g,0,none⟩ (ρ.t 5))).drew.cell? ⟨b,1,none⟩=some (.slice (some ⟨g,0,none⟩) 0 0):=c2
 have mixed:=L.mixed
 have t72:=L.t72;have a72:=L.a72;have z72:=L.z72;have v72:=L.v72;have u72:=run_underlying L.t72
 have t70:=L.t70;have a70:=L.a70;have z70:=L.z70;have v70:=L.v70;have u70:=run_underlying L.t70
 have t37:=L.t37;have a37:=L.a37;have z37:=L.z37;have v37:=L.v37;have u37:=run_underlying L.t37
 have t127:=L.t127;have a127:=L.a127;have z127:=L.z127;have v127:=L.v127;have u127:=run_underlying L.t127
 have t3:=L.t3;have a3:=L.a3;have z3:=L.z3;have v3:=L.v3;have u3:=run_underlying L.t3
 have t9:=L.t9;have a9:=L.a9;have z9:=L.z9;have v9:=L.v9;have u9:=run_underlying L.t9
 have t5:=X.t5;have a5:=X.a5;have z5:=X.z5;have v5:=X.v5;have u5:=run_underlying X.t5
 go_enter L.f169,Body.n169_ntmps ρ
 go_wp2
 go_region_o
 all_goals (go_wp2;go_ret;exact⟨rfl,rfl⟩)
end
end Go.Proofs.YtbiepiggmagfcaaGreatDoor
