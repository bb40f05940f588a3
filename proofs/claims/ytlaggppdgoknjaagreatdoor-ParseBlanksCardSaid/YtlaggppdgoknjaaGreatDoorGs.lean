/- The rules of the walks, in one set. No conditions but those in each statement. -/
import Derived.Test.YtlaggppdgoknjaaGreatDoorSy28
import Derived.Test.YtlaggppdgoknjaaGreatDoorTy2
set_option linter.unusedVariables false
set_option linter.unusedSimpArgs false
namespace Go.Proofs.YtlaggppdgoknjaaGreatDoor
open Go Go.Sy Go.RowKit
set_option linter.defProp false in
def eB:=And.intro @e_nil (And.intro @e_cons (And.intro @e_text (And.intro @e_draw (And.intro @e_seq (And.intro @e_block (And.intro @e_then1 (And.intro @e_then2 (And.intro @e_then3 (And.intro @e_in1 (And.intro @e_in2 (And.intro @e_in3 (And.intro @e_nrmK (And.intro @e_textT (And.intro @e_drawK (And.intro @e_fac0 (And.intro @e_fac1 (And.intro @e_fac2 (And.intro @e_fac3 (And.intro @e_seqK (And.intro @e_ret (And.intro @e_skip (And.intro @e_label (And.intro @e_exit (And.intro @e_cond (And.intro @e_loop (And.intro @e_impBt (And.intro @e_impBf (And.intro @e_impNt @e_impNf))))))))))))))))))))))))))))
theorem storL1 {r0:List C} (h:r0.all C.stor=true):∀r∈[r0],∀c∈r,C.stor c=true:=by
 intro r h1 c h2
 rw[List.mem_singleton]at h1
 subst h1
 exact List.all_eq_true.1 h c h2
attribute [go_sem] e_facT e_facF e_step e_gh e_condK e_retQ1 e_retQ2 e_ex e_guard0 gh_nil ghOf run_nil runCs argE opG guarded slotOf dstK dstLt guardOf opS fresh rV opMove opPick opAlloc opBox opBuild opBuildSlice opMakeSlice opLoad opStore ptrG ptrA opFieldAddr opField opIndexAddr opIndex boI opSlice opExtract opConvert opConvB opIface opMakeMap opLookup lkV mapC headC agOf opMapUpdate opMakeFunc capsC okCap opPanic pnO_some pnAll pn1_v pnN wkL wkR wkC_any wkC_eq rowsN getP inP setP ni_n ni_p ni_dn ni_d ni_dp ni_pp ni_s ni_any nilBin opBin unV opUn okPtr opNil lenC srcR srcZ opAppend opBuiltin opCall opCallV fnSV findS reads readG readA readAG readO readOG fillC setAll chop repl anyN tgN sA_sv sQ_sv tS_sv sA_d sQ_d tS_d sA_df sQ_df tS_df sA_s sQ_s tS_s sA_st sQ_st tS_st zT_nil zT_any zT_v zT_p zT_s zT_dsl zT_dpt zT_df zT_dp zT_ov zT_fn zT_tg ldc ldV cl_any cl_v cl_p cl_s cl_d cl_df cl_dp cl_fn cl_vw cl_q cl_ov clL clos oD_v oD_sl oD_pt oD_mp binV eqL eqC cmpI arI strI rdv rdg okV lkp St.app addL addS ofV SV.tupB SV.cells st_any st_v st_p st_s st_d st_df st_dp st_fn st_vw st_q st_ov C.flat oneV resAll resOne resV noTup toP updH capN List.getElem?_nil mk_bs bs_toList cStr_d cStr_e dStr specM_f specM_fn spM_some am0_d amD_d amP_d amS_d pairM_some pairN_some ptrD slcD decM ndB updM bumpC renV rn_any rn_v rn_p rn_s rn_d rn_df rn_dp rn_fn rn_vw rn_q rn_ov nmM chO memH memO am0_a amD_a amP_a amS_a am0_m amD_m amP_m amS_m dropTake take_len bq_nn bq_cn bq_nc bq_cc Nat.sub_zero dec_T dec_F specD_f specD_fn specG_f specG_fn specR_f specR_fn spFnH_some ahS_d ah0_d ahS_e ah0_e pairF_some CodH_d CodH_e cSl_d cSl_e slR slD decL decL_map toD toDs toDss List.length_map Int.toNat_natCast Int.natCast_nonneg acS_d ac0_d acS_e ac0_e pairO_some spFn_some cIntY_d cBoolY_d cIntY_e cBoolY_e dInt dBool bsel_true bsel_false Option.map_some Option.getD_some Option.getD_none Option.map_none Option.bind_some List.all_cons List.all_nil Bool.and_true Bool.true_and Bool.and_self Bool.not_not true_and and_true and_self true_or or_true forall_const true_implies imp_self implies_true List.getElem?_cons_zero List.getElem?_cons_succ List.getElem?_toArray List.length_cons List.length_nil List.map_cons List.map_nil List.set_cons_zero List.set_cons_succ List.length_set List.drop_zero List.drop_succ_cons List.take_succ_cons List.take_zero List.getD_cons_zero List.getD_cons_succ ne_eq not_false_eq_true Nat.le_refl Int.toNat_zero Nat.zero_mul Nat.zero_add Nat.add_zero Nat.one_mul Bool.false_eq_true Bool.not_false Bool.not_true Bool.or_false Bool.false_or Bool.or_true Bool.true_or Bool.and_false Bool.false_and Bool.not_eq_false' Bool.not_eq_true' Bool.or_self wrap_i64 wrap_u64 wrap_u8 Int.natCast_zero Int.natCast_one Int.cast_ofNat_Int Int.lt_irrefl decide_false decide_true Nat.lt_irrefl Nat.lt_add_one Int.toNat_one List.take_nil List.drop_nil List.flatMap_cons List.flatMap_nil List.append_nil List.nil_append List.cons_append List.append_eq List.any_nil List.any_cons List.contains_cons List.contains_nil nm_any nm_v nm_p nm_s nm_d nm_df nm_dp nm_fn nm_vw nm_q nm_ov SV.names pNames List.mem_cons List.not_mem_nil or_false forall_eq forall_eq_or_imp and_imp false_implies List.mem_singleton not_true_eq_false if_true if_false e_RESL e_RESML leV leL leT leP leC_same leC_nil optCh sameCh domB chNames noVw nv_any nv_v nv_p nv_s nv_d nv_df nv_dp nv_fn nv_vw nv_q nv_ov Cmd.run fzmS fm_any fm_v fm_p fm_s fm_d fm_df fm_dp fm_fn fm_ov toVs foldC foldD nilC' nilR' unrC closB fzS fz_any fz_v fz_p fz_s fz_d fz_df fz_dp fz_fn fz_vw fz_q fz_ov mv_any mv_v mv_p mv_s mv_d mv_df mv_dp mv_fn mv_vw mv_q mv_ov mapE mapHl mapV mapCh To1 memF Sy.Sub e_ret0 e_RES
attribute [go_sem] ya2 ys2 yby2 yz2 yi2 ya3 ys3 yby3 yz3 yi3 ya4 ys4 yby4 yz4 yb4 ya5 ys5 yby5 yz5 yi5 yf7_0 yf7_1 yf7_2 yf7_3 ya9 ys9 yby9 yz9 yst9 yf13_0 yf13_1 yf18_0 ya20 ys20 yby20 yz20 ya21 ys21 yby21 yz21 yi21 ya22 ys22 yby22 yz22 ye22 ya26 ys26 yby26 yz26 ye26 ya29 ys29 yby29 yz29 ye29 ya30 ys30 yby30 yz30 yf30_0 yf30_1 yf30_2 yp30 ya31 ys31 yby31 yz31 yc31 yf31_0 yf31_1 yf31_2 yp31 yq31 ya32 ys32 yby32 yz32 ye32 ya33 ys33 yby33 yz33 ye33 ya34 ys34 yby34 yz34 yf34_0 yf34_1 yf34_2 yf34_3 yp34 ya35 ys35 yby35 yz35 yc35 yf35_0 yf35_1 yf35_2 yf35_3 yp35 ya36 ys36 yby36 yz36 yc36 yi36 ya44 ys44 yby44 yz44 ye44 ya45 ys45 yby45 yz45 yf45_0 yf45_1 yp45 ya46 ys46 yby46 yz46 yc46 yf46_0 yf46_1 yp46 ya49 ys49 yby49 yz49 ypt49 ya50 ys50 yby50 yz50 ypt50 ya51 ys51 yby51 yz51 ye51 ya52 ys52 yby52 yz52 yf52_0 yf52_1 yf52_2 yf52_3 yf52_4 yf52_5 yf52_6 yf52_7 yf52_8 yf52_9 yp52 ya53 ys53 yby53 yz53 yc53 yf53_0 yf53_1 yf53_2 yf53_3 yf53_4 yf53_5 yf53_6 yf53_7 yf53_8 yf53_9 yp53 ya54 ys54 yby54 yz54 yf54_0 yf54_1 yf54_2 yf54_3 yf54_4 yp54 ya55 ys55 yby55 yz55 yc55 yf55_0 yf55_1 yf55_2 yf55_3 yf55_4 yp55 ya56 ys56 yby56 yz56 yf56_0 yf56_1 yp56 ya57 ys57 yby57 yz57 yc57 yf57_0 yf57_1 yp57 yq57 ya58 ys58 yby58 yz58 ypt58 ya59 ys59 yby59 yz59 yf59_0 yf59_1 yf59_2 yp59 ya60 ys60 yby60 yz60 yc60 yf60_0 yf60_1 yf60_2 yp60 ya66 ys66 yby66 yz66 yi66 ya68 ys68 yby68 yz68 ypt68 ya71 ys71 yby71 yz71 yf71_0 yf71_1 yf71_2 yp71 ya72 ys72 yby72 yz72 yc72 yf72_0 yf72_1 yf72_2 yp72 ya73 ys73 yby73 yz73 yf73_0 yf73_1 yf73_2 yf73_3 yf73_4 yp73 ya74 ys74 yby74 yz74 yc74 yf74_0 yf74_1 yf74_2 yf74_3 yf74_4 yp74 ya79 ys79 yby79 yz79 ypt79 ya80 ys80 yby80 yz80 yf80_0 yf80_1 yf80_2 yf80_3 yf80_4 yf80_5 yf80_6 yp80 ya81 ys81 yby81 yz81 yc81 yf81_0 yf81_1 yf81_2 yf81_3 yf81_4 yf81_5 yf81_6 yp81 ya88 ys88 yby88 yz88 ypt88 ya91 ys91 yby91 yz91 yf91_0 yf91_1 yp91 ya92 ys92 yby92 yz92 yc92 yf92_0 yf92_1 yp92 yq92 ya104 ys104 yby104 yz104 yf104_0 yf104_1 yf104_2 yp104 ya105 ys105 yby105 yz105 yc105 yf105_0 yf105_1 yf105_2 yp105 ya118 ys118 yby118 yz118 yf118_0 yf118_1 yf118_2 yf118_3 yf118_4 yf118_5 yp118 ya119 ys119 yby119 yz119 yc119 yf119_0 yf119_1 yf119_2 yf119_3 yf119_4 yf119_5 yp119 ya135 ys135 yby135 yz135 ypt135 yf139_0 yf139_1 yf139_2 yf140_0 yf140_1 yf140_2 yf147_0 yf148_0 yf152_0 yf152_1 yf153_0 yf153_1 yf170_0 yf170_1 yf170_2 yf170_3 yf173_0 yf180_0 yf180_1 yf180_2 yf180_3 yf180_4 yf180_5 yf180_6 yf180_7 yf180_8 yf180_9 yf180_10
theorem ck {o:Array Oper} {t:Sy.Trace} (h:chkT o t=true:=by kernel_rfl):chkT o t=true:=h
theorem sL {r0 r:List C} {c:C} (h1:r∈[r0]) (h2:c∈r) (h:r0.all C.stor=true:=by simp only[go_sem]):C.stor c=true:=storL1 h r h1 c h2
theorem oI {A:Type} {a b:A} (h:some a=some b):b=a:=(Option.some.inj h).symm
theorem nah {p q:Prop} (h:p) (k:¬p:=by decide):q:=absurd h k
end Go.Proofs.YtlaggppdgoknjaaGreatDoor
namespace Go.Proofs.YtlaggppdgoknjaaGreatDoor
open Go Go.Sy Go.RowKit
inductive Ex where
 |nil
 |mk (k n:Int) (s:List UInt8) (a b:Ex)
inductive Cd where
 |nil
 |mk (k:Int) (a b:Ex) (p q:Cd) (s:List UInt8)
structure Ar where
 p:Bool
 s:List UInt8
 e:Ex
inductive Sm where
 |mk (k:Int) (x y:List UInt8) (e f:Ex) (c:Cd) (args:List Ar) (th el:List Sm) (no:Int)
structure Vr where
 s:List UInt8
 p:Bool
structure Fn where
 name:List UInt8
 ps:List Vr
 ls:List Vr
 body:List Sm
structure Tok where
 k:Int
 t:List UInt8
 p:Int
abbrev dN:D:=.v (.pointer none)
abbrev dI (n:Int):D:=.v (.int .i64 n)
abbrev dS (s:List UInt8):D:=.v (.string (bs s))
abbrev dL0:D:=.v (.slice none 0 0)
def Ex.d:Ex→D
 | .nil=>dN
 | .mk k n s a b=>.pt (some [dI k,dI n,dS s,a.d,b.d])
def Cd.d:Cd→D
 | .nil=>dN
 | .mk k a b p q s=>.pt (some [dI k,a.d,b.d,p.d,q.d,dS s])
def Ar.r (a:Ar):List D:=[.v (.bool a.p),dS a.s,a.e.d]
def zAr:List D:=[.v (.bool false),dS [],dN]
def zSm:List D:=[dI 0,dS [],dS [],dN,dN,dN,dL0,dL0,dL0,dI 0]
mutual
def Sm.r:Sm→List D
 | .mk k x y e f c args th el no=>[dI k,dS x,dS y,e.d,f.d,c.d,.sl zAr (args.map Ar.r),.sl zSm (Sm.rs th),.sl zSm (Sm.rs el),dI no]
def Sm.rs:List Sm→List (List D)
 |[]=>[]
 |s::l=>s.r::Sm.rs l
end
theorem rs_map:∀l:List Sm,Sm.rs l=l.map Sm.r
 |[]=>by simp[Sm.rs]
 |s::l=>by simp only[Sm.rs,List.map_cons,rs_map l]
def Vr.r (v:Vr):List D:=[dS v.s,.v (.bool v.p)]
def zVr:List D:=[dS [],.v (.bool false)]
def Fn.r (f:Fn):List D:=[dS f.name,.sl zVr (f.ps.map Vr.r),.sl zVr (f.ls.map Vr.r),.sl zSm (f.body.map Sm.r)]
def Tok.r (x:Tok):List D:=[dI x.k,dS x.t,dI x.p]
def zTk:List D:=[dI 0,dS [],dI 0]
theorem empty_bs:ByteArray.empty=bs []:=rfl
theorem bs_inj {a b:List UInt8} (h:bs a=bs b):a=b:=by rw[← bs_toList a,← bs_toList b,h]
theorem exd_inj:∀{a b:Ex},a.d=b.d→a=b
 | .nil,.nil,_=>rfl
 | .nil,.mk ..,h=>by simp[Ex.d]at h
 | .mk ..,.nil,h=>by simp[Ex.d]at h
 | .mk k n s a b,.mk k' n' s' a' b',h=>by
  simp only[Ex.d,D.pt.injEq,Option.some.injEq,List.cons.injEq,D.v.injEq,Value.int.injEq,Value.string.injEq,true_and,and_true]at h
  obtain⟨rfl,rfl,h1,h2,h3⟩:=h
  rw[bs_inj h1,exd_inj h2,exd_inj h3]
theorem cdd_inj:∀{a b:Cd},a.d=b.d→a=b
 | .nil,.nil,_=>rfl
 | .nil,.mk ..,h=>by simp[Cd.d]at h
 | .mk ..,.nil,h=>by simp[Cd.d]at h
 | .mk k a b p q s,.mk k' a' b' p' q' s',h=>by
  simp only[Cd.d,D.pt.injEq,Option.some.injEq,List.cons.injEq,D.v.injEq,Value.int.injEq,Value.string.injEq,true_and,and_true]at h
  obtain⟨rfl,h1,h2,h3,h4,h5⟩:=h
  rw[bs_inj h5,exd_inj h1,exd_inj h2,cdd_inj h3,cdd_inj h4]
theorem map_inj {A B:Type} {f:A→B} (hf:∀a b,f a=f b→a=b):∀{l m:List A},l.map f=m.map f→l=m
 |[],[],_=>rfl
 |[],_::_,h=>by simp at h
 |_::_,[],h=>by simp at h
 |a::l,b::m,h=>by
  simp only[List.map_cons,List.cons.injEq]at h
  rw[hf _ _ h.1,map_inj hf h.2]
theorem ar_inj (a b:Ar) (h:a.r=b.r):a=b:=by
 obtain⟨p,s,e⟩:=a
 obtain⟨p',s',e'⟩:=b
 simp only[Ar.r,List.cons.injEq,D.v.injEq,Value.bool.injEq,Value.string.injEq,and_true]at h
 obtain⟨rfl,h1,h2⟩:=h
 rw[bs_inj h1,exd_inj h2]
mutual
theorem sm_inj:∀(a b:Sm),a.r=b.r→a=b
 | .mk k x y e f c args th el no,.mk k' x' y' e' f' c' args' th' el' no',h=>by
  simp only[Sm.r,List.cons.injEq,D.v.injEq,D.sl.injEq,Value.int.injEq,Value.string.injEq,true_and,and_true]at h
  obtain⟨rfl,h1,h2,h3,h4,h5,h6,h7,h8,rfl⟩:=h
  rw[bs_inj h1,bs_inj h2,exd_inj h3,exd_inj h4,cdd_inj h5,map_inj ar_inj h6,sms_inj th th' h7,sms_inj el el' h8]
theorem sms_inj:∀(l m:List Sm),Sm.rs l=Sm.rs m→l=m
 |[],[],_=>rfl
 |[],_::_,h=>by simp[Sm.rs]at h
 |_::_,[],h=>by simp[Sm.rs]at h
 |a::l,b::m,h=>by
  simp only[Sm.rs,List.cons.injEq]at h
  rw[sm_inj a b h.1,sms_inj l m h.2]
end
theorem vr_inj (a b:Vr) (h:a.r=b.r):a=b:=by
 obtain⟨s,p⟩:=a
 obtain⟨s',p'⟩:=b
 simp only[Vr.r,List.cons.injEq,D.v.injEq,Value.bool.injEq,Value.string.injEq,and_true]at h
 rw[bs_inj h.1,h.2]
theorem tk_inj (a b:Tok) (h:a.r=b.r):a=b:=by
 obtain⟨s,p,q⟩:=a
 obtain⟨s',p',q'⟩:=b
 simp only[Tok.r,List.cons.injEq,D.v.injEq,Value.int.injEq,Value.string.injEq,and_true,true_and]at h
 rw[h.1,bs_inj h.2.1,h.2.2]
theorem oD_toD (d:D):toD (oD d)=some d:=by cases d<;>rfl
theorem oD_noVw (d:D):noVwC (oD d)=true:=by cases d<;>rfl
theorem oD_flat (d:D):(oD d).flat=true:=by cases d<;>rfl
theorem oD_out (n:Nat) (d:D):outC n (oD d)=true:=by cases d<;>rfl
theorem oD_ren (f:Nat→Nat) (d:D):renC f (oD d)=oD d:=by cases d<;>rfl
theorem oD_mv (k t:Nat) (d:D):mvC k t (oD d)=oD d:=by cases d<;>rfl
theorem oD_fz (k:Nat) (z:List D) (es:List (List D)) (d:D):fzC k z es (oD d)=oD d:=by cases d<;>rfl
theorem oD_ldc (k u:Nat) (p:List (Nat×Nat)) (i j:Nat) (d:D) (r:List C):ldc k u p i j (oD d::r)=oD d::ldc k u p i (j+1) r:=by cases d<;>rfl
def Ex.isNil:Ex→Bool
 | .nil=>true
 |_=>false
def Cd.isNil:Cd→Bool
 | .nil=>true
 |_=>false
def exC (e:Ex):C:=oD e.d
theorem ex_of (e:Ex):oD e.d=exC e:=rfl
theorem ex_toD (e:Ex):toD (exC e)=some e.d:=oD_toD _
theorem ex_noVw (e:Ex):noVwC (exC e)=true:=oD_noVw _
theorem ex_stor (e:Ex):C.stor (exC e)=true:=oD_stor _
theorem ex_names (e:Ex):C.names (exC e)=[]:=oD_names _
theorem ex_flat (e:Ex):(exC e).flat=true:=oD_flat _
theorem ex_out (n:Nat) (e:Ex):outC n (exC e)=true:=oD_out n _
theorem ex_ren (f:Nat→Nat) (e:Ex):renC f (exC e)=exC e:=oD_ren f _
theorem ex_mv (k t:Nat) (e:Ex):mvC k t (exC e)=exC e:=oD_mv k t _
theorem ex_fz (k:Nat) (z:List D) (es:List (List D)) (e:Ex):fzC k z es (exC e)=exC e:=oD_fz k z es _
theorem ex_ldc (k u:Nat) (p:List (Nat×Nat)) (i j:Nat) (e:Ex) (r:List C):ldc k u p i j (exC e::r)=exC e::ldc k u p i (j+1) r:=oD_ldc ..
theorem ex_nilC (e:Ex):nilC (exC e)=some e.isNil:=by cases e<;>rfl
theorem ex_nil:exC .nil= .v (.pointer none):=rfl
def cdC (e:Cd):C:=oD e.d
theorem cd_of (e:Cd):oD e.d=cdC e:=rfl
theorem cd_toD (e:Cd):toD (cdC e)=some e.d:=oD_toD _
theorem cd_noVw (e:Cd):noVwC (cdC e)=true:=oD_noVw _
theorem cd_stor (e:Cd):C.stor (cdC e)=true:=oD_stor _
theorem cd_names (e:Cd):C.names (cdC e)=[]:=oD_names _
theorem cd_flat (e:Cd):(cdC e).flat=true:=oD_flat _
theorem cd_out (n:Nat) (e:Cd):outC n (cdC e)=true:=oD_out n _
theorem cd_ren (f:Nat→Nat) (e:Cd):renC f (cdC e)=cdC e:=oD_ren f _
theorem cd_mv (k t:Nat) (e:Cd):mvC k t (cdC e)=cdC e:=oD_mv k t _
theorem cd_fz (k:Nat) (z:List D) (es:List (List D)) (e:Cd):fzC k z es (cdC e)=cdC e:=oD_fz k z es _
theorem cd_ldc (k u:Nat) (p:List (Nat×Nat)) (i j:Nat) (e:Cd) (r:List C):ldc k u p i j (cdC e::r)=cdC e::ldc k u p i (j+1) r:=oD_ldc ..
theorem cd_nilC (e:Cd):nilC (cdC e)=some e.isNil:=by cases e<;>rfl
theorem cd_nil:cdC .nil= .v (.pointer none):=rfl
theorem ex_mk (k n:Int) (s:List UInt8) (a b:Ex):exC (.mk k n s a b)= .d (.pt (some [.v (.int .i64 k),.v (.int .i64 n),.v (.string (bs s)),a.d,b.d])):=rfl
theorem cd_mk (k:Int) (a b:Ex) (p q:Cd) (s:List UInt8):cdC (.mk k a b p q s)= .d (.pt (some [.v (.int .i64 k),a.d,b.d,p.d,q.d,.v (.string (bs s))])):=rfl
theorem ex_dnil:Ex.d .nil= .v (.pointer none):=rfl
theorem cd_dnil:Cd.d .nil= .v (.pointer none):=rfl
structure Pr where
 l:List Tok
 i:Int
 en:Int
 e:Int
 at':Int
 deep:Int
 n:Int
theorem pr_eta (p:Pr):(⟨p.l,p.i,p.en,p.e,p.at',p.deep,p.n⟩:Pr)=p:=rfl
def Pr.r (p:Pr):List D:=[.sl zTk (p.l.map Tok.r),dI p.i,dI p.en,dI p.e,dI p.at',dI p.deep,dI p.n]
def Pr.c (p:Pr):List C:=[.d (.sl zTk (p.l.map Tok.r)),.v (.int .i64 p.i),.v (.int .i64 p.en),.v (.int .i64 p.e),.v (.int .i64 p.at'),.v (.int .i64 p.deep),.v (.int .i64 p.n)]
abbrev tk0:Tok:=⟨0,[],0⟩
theorem tk_getD (l:List Tok) (i:Nat):(l.map Tok.r).getD i zTk=Tok.r (l.getD i tk0):=by
 simp only[List.getD,List.getElem?_map]
 cases l[i]?<;>rfl
attribute [go_sem] ex_of ex_toD ex_noVw ex_stor ex_names ex_flat ex_ren ex_mv ex_fz ex_ldc ex_nilC cd_of cd_toD cd_noVw cd_stor cd_names cd_flat cd_ren cd_mv cd_fz cd_ldc cd_nilC dI dL0 dN dS empty_bs oD_toD
end Go.Proofs.YtlaggppdgoknjaaGreatDoor
