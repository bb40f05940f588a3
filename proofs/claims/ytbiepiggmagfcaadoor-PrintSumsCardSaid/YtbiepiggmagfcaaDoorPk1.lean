/- The chapter's example: what is printed of it. Conditions: the table of powers of ten is laid. -/
import Derived.Test.YtbiepiggmagfcaaDoorPs6
import Derived.Test.YtbiepiggmagfcaaDoorSy31
set_option linter.unusedVariables false
set_option linter.unusedSimpArgs false
namespace Go.Proofs.YtbiepiggmagfcaaDoor
open Go Go.Sy Go.RowKit
theorem ly_ex (H:Hp) (e:Ex):lyC H (exC e)=some (exC e,[]):=by cases e<;>rfl
theorem ly_cd (H:Hp) (e:Cd):lyC H (cdC e)=some (cdC e,[]):=by cases e<;>rfl
theorem yw_Expr (n:Nat):CallsG Tryd.prog 10 powT ya_Expr (fun p=>yc_Expr n p.1) (fun a=>ofV ((fun p=>Value.string (bs (exT p.1))) a)):=y_Expr n
theorem yw_Cond (n:Nat):CallsG Tryd.prog 18 powT ya_Cond (fun p=>yc_Cond n p.1) (fun a=>ofV ((fun p=>Value.string (bs (coT p.1))) a)):=y_Cond n
theorem yw_pFunc (n m:Nat):CallsG Tryd.prog 15 powT ya_pFunc (fun p=>yc_pFunc n m p.1) (fun a=>ofV ((fun p=>Value.string (bs (fnT p.1))) a)):=y_pFunc n m
theorem yw_pGlobals:CallsG Tryd.prog 23 powT (acS cGb ac0) (fun p=>yc_pGlobals p.1) (fun a=>ofV ((fun p=>Value.string (bs (glT p.1))) a)):=y_pGlobals
theorem ywh_Expr:∀a:Ex×Unit,okV ((fun p:Ex×Unit=>Value.string (bs (exT p.1))) a)=true:=fun _=>rfl
theorem ywh_Cond:∀a:Cd×Unit,okV ((fun p:Cd×Unit=>Value.string (bs (coT p.1))) a)=true:=fun _=>rfl
theorem ywh_pFunc:∀a:Fn×Unit,okV ((fun p:Fn×Unit=>Value.string (bs (fnT p.1))) a)=true:=fun _=>rfl
theorem ywh_pGlobals:∀a:Gb×Unit,okV ((fun p:Gb×Unit=>Value.string (bs (glT p.1))) a)=true:=fun _=>rfl
section
variable {X:Ctx} {w0:World}
noncomputable def yl_Expr (n:Nat) (hG:StaysN X w0 powT powB):Sy.Spec Tryd.prog X w0:=specL 10 Tryd.call10 powT ya_Expr (fun p=>yc_Expr n p.1) (fun p=>.string (bs (exT p.1))) ywh_Expr (yw_Expr n) hG.stays
noncomputable def yl_Cond (n:Nat) (hG:StaysN X w0 powT powB):Sy.Spec Tryd.prog X w0:=specL 18 Tryd.call18 powT ya_Cond (fun p=>yc_Cond n p.1) (fun p=>.string (bs (coT p.1))) ywh_Cond (yw_Cond n) hG.stays
noncomputable def yl_pFunc (n m:Nat) (hG:StaysN X w0 powT powB):Sy.Spec Tryd.prog X w0:=specL 15 Tryd.call15 powT ya_pFunc (fun p=>yc_pFunc n m p.1) (fun p=>.string (bs (fnT p.1))) ywh_pFunc (yw_pFunc n m) hG.stays
noncomputable def yl_pGlobals (hG:StaysN X w0 powT powB):Sy.Spec Tryd.prog X w0:=specL 23 Tryd.call23 powT (acS cGb ac0) (fun p=>yc_pGlobals p.1) (fun p=>.string (bs (glT p.1))) ywh_pGlobals (yw_pGlobals) hG.stays
end
def kE1:Ex:=.mk 1 0 [97] .nil .nil
def kE:Ex:=.mk 3 0 [] kE1 (.mk 3 0 [] kE1 kE1)
def kC:Cd:=.mk 9 .nil .nil .nil .nil [112]
abbrev dK1:D:=.pt (some [.v (.int .i64 1),.v (.int .i64 0),.v (.string (bs [97])),.v (.pointer none),.v (.pointer none)])
theorem kE_d:cEx.d (.one (.d (.pt (some [.v (.int .i64 3),.v (.int .i64 0),.v (.string (bs [])),dK1,.pt (some [.v (.int .i64 3),.v (.int .i64 0),.v (.string (bs [])),dK1,dK1])]))))=some kE:=cEx_d kE
theorem kC_d:cCd.d (.one (.d (.pt (some [.v (.int .i64 9),.v (.pointer none),.v (.pointer none),.v (.pointer none),.v (.pointer none),.v (.string (bs [112]))]))))=some kC:=cCd_d kC
theorem kG_d:cGb.d (.agg [.d (.sl [.v (.string (bs []))] [[.v (.string (bs [99]))]]),.v (.slice none 0 0)])=some ⟨[[99]],[]⟩:=codOf_le (e:=fun g:Gb=>.agg g.c) (a:=⟨[[99]],[]⟩) ⟨leC_refl _,.inr ⟨rfl,rfl⟩,trivial⟩
theorem kF_d:cFn.d (.agg [.v (.string (bs [102])),.v (.slice none 0 0),.v (.slice none 0 0),.v (.slice none 0 0)])=some ⟨[102],[],[],[]⟩:=codOf_le (e:=fun f:Fn=>.agg f.c) (a:=⟨[102],[],[],[]⟩) ⟨leC_refl _,.inr ⟨rfl,rfl⟩,.inr ⟨rfl,rfl⟩,.inr ⟨rfl,rfl⟩,trivial⟩
theorem kE_t:exT kE=[97,32,45,32,40,97,32,45,32,97,41]:=by kernel_rfl
theorem kC_t:coT kC=[112,32,61,61,32,110,117,108,108]:=by kernel_rfl
theorem kG_t:glT ⟨[[99]],[]⟩=[99,101,108,108,32,99,59,10]:=by kernel_rfl
theorem kF_t:fnT ⟨[102],[],[],[]⟩=[102,110,32,102,40,41,32,123,10,125,10]:=by kernel_rfl
theorem kE_o:okN kE:=by simp[okN,kE,kE1,w64]
theorem kC_o:okCn kC:=⟨trivial,trivial,trivial,trivial⟩
theorem kE_l:(exT kE).length≤1000000000:=by rw[kE_t];exact Nat.le_of_ble_eq_true rfl
theorem kC_l:(coT kC).length≤1000000000:=by rw[kC_t];exact Nat.le_of_ble_eq_true rfl
theorem kG_l:(glT ⟨[[99]],[]⟩).length≤1000000000:=by rw[kG_t];exact Nat.le_of_ble_eq_true rfl
theorem kF_l:(fnT ⟨[102],[],[],[]⟩).length≤1000000000:=by rw[kF_t];exact Nat.le_of_ble_eq_true rfl
theorem okPr0:okPr 1 1 []:=⟨Nat.zero_le _,fun s h=>by cases h⟩
abbrev yc_pknown:Prop:=True
abbrev yr_pknown:SV:=.one (.v (.bool true))
noncomputable abbrev ya_pknown:ArgC (Unit):=ac0
abbrev yq_pknown:Prop:=CallsG Tryd.prog 7 powT ya_pknown (fun p:Unit=>yc_pknown ) (fun p:Unit=>yr_pknown )
theorem yn_pknown:∀p:Unit,((fun p:Unit=>yr_pknown ) p).names=[]:=by intro p;rfl
noncomputable def yg_pknown {X:Ctx} {w0:World} (h:yq_pknown) (hG:StaysN X w0 powT powB):Sy.Spec Tryd.prog X w0:=specG 7 Tryd.call7 powT ya_pknown (fun p:Unit=>yc_pknown ) (fun p:Unit=>yr_pknown ) (yn_pknown) h hG.stays
set_option maxRecDepth 20000 in set_option maxHeartbeats 4000000 in
theorem y_pknown:yq_pknown:=by
 rintro ⟨_u⟩ w fz xs hT hc hfz hl hx
 have hG:=staysN_clX powT_keptB powT_size (fz:=fz) hT
 refine calls_toL Tryd.func7 rfl w fz [(yl_Expr 5 hG),(yl_Cond 5 hG),(yl_pFunc 1 1 hG),(yl_pGlobals hG)] [(2,[.fz 4]),(3,[.fz 9,.fz 11])] ya_pknown (fun p:Unit=>yr_pknown ) _ xs hfz hl hx (Nat.le_of_ble_eq_true rfl) ?_
 clear hx hl hfz xs
 simp only[Tryd.f7]
 simp only[↓eB,seval,go_sem,cEx_e,cEx_d,cEx_n,cEx_dp,cCd_e,cCd_d,cCd_n,cCd_dp,cGb_e,cGb_d,cFn_e,cFn_d,specL_f,specL_fn,lyA,lyV,lyS,lyL,lyC,lyP_s,lyQ_s,ly_ex,ly_cd,kE_d,kC_d,kG_d,kF_d,kE_t,kC_t,kG_t,kF_t,yl_Expr,yl_Cond,yl_pFunc,yl_pGlobals]
 try simp only[impB,impN]
 repeat' first|exact ck|with_reducible apply And.intro|intro _
 all_goals first|exact kE_o|exact kC_o|exact okPr0|exact kE_l|exact kC_l|exact kG_l|exact kF_l|(rename_i h;cases h;done)|(rename_i h;first|exact oI h|exact nah h)|(rename_i _ h _ g;exact sL h g)|decide|omega|(refine ret_with [] ?_;simp only[↓eB,seval,go_sem,bne,yr_pknown])
noncomputable def yp_pknown {X:Ctx} {w0:World} (hG:StaysN X w0 powT powB):Sy.Spec Tryd.prog X w0:=yg_pknown y_pknown hG
end Go.Proofs.YtbiepiggmagfcaaDoor
