/- Arguments that fit, walked. No conditions but those in each statement. -/
import Derived.Test.YtjnnmindcbgjhabRma
set_option linter.unusedVariables false
set_option linter.unusedSimpArgs false
namespace Go.Proofs.Ytjnnmindcbgjhab
open Go Go.Sy Go.RowKit
def Va.r (a:Va):List D:=[.v (.bool a.p),.v (.int .i64 a.n),.v (.string (bs a.s))]
abbrev zVaD:List D:=[.v (.bool false),.v (.int .i64 0),.v (.string (bs []))]
theorem var_inj (a b:Va) (h:a.r=b.r):a=b:=by
 obtain⟨p,n,s⟩:=a
 obtain⟨p',n',s'⟩:=b
 simp only[Va.r,List.cons.injEq,D.v.injEq,Value.string.injEq,Value.int.injEq,Value.bool.injEq,true_and,and_true]at h
 obtain⟨rfl,rfl,h1⟩:=h
 rw[bs_inj h1]
noncomputable def rVa:RowC Va:=rowOf zVaD Va.r var_inj fun _=>rfl
theorem rVa_e:rVa.e=Va.r:=rfl
theorem rVa_z:rVa.z=zVaD:=rfl
theorem zVaD_ln:zVaD.length=3:=rfl
theorem zVr_ln2:zVr.length=2:=rfl
theorem decL_va (l:List Va):decL rVa.d (l.map Va.r)=some l:=decL_map rVa l
noncomputable def cVq:Cod (List Vr):=codOf (fun l=>.one (.d (.sl zVr (l.map Vr.r)))) (fun v a b h h'=>by
 cases v with
 |one c=>exact map_inj vr_inj (leC_d h h')
 |agg l=>exact h.elim
 |tup l=>exact h.elim) (fun l=>rfl)
theorem cVq_e (l:List Vr):cVq.e l= .one (.d (.sl zVr (l.map Vr.r))):=rfl
theorem cVq_d (l:List Vr):cVq.d (.one (.d (.sl zVr (l.map Vr.r))))=some l:=codOf_le (e:=fun l:List Vr=>.one (.d (.sl zVr (l.map Vr.r)))) (leV_refl _)
noncomputable def cVas:Cod (List Va):=codOf (fun l=>.one (.d (.sl zVaD (l.map Va.r)))) (fun v a b h h'=>by
 cases v with
 |one c=>exact map_inj var_inj (leC_d h h')
 |agg l=>exact h.elim
 |tup l=>exact h.elim) (fun l=>rfl)
theorem cVas_e (l:List Va):cVas.e l= .one (.d (.sl zVaD (l.map Va.r))):=rfl
theorem cVas_d (l:List Va):cVas.d (.one (.d (.sl zVaD (l.map Va.r))))=some l:=codOf_le (e:=fun l:List Va=>.one (.d (.sl zVaD (l.map Va.r)))) (leV_refl _)
theorem vr_z {l:List Vr} {i:Nat} {x:Vr} (h:l[i]?=some x) (z:List D):(l.map Vr.r).getD i z=[.v (.string (bs x.s)),.v (.bool x.p)]:=by simp[List.getD,h,Vr.r]
theorem va_z {l:List Va} {i:Nat} {x:Va} (h:l[i]?=some x) (z:List D):(l.map Va.r).getD i z=[.v (.bool x.p),.v (.int .i64 x.n),.v (.string (bs x.s))]:=by simp[List.getD,h,Va.r]
theorem fitB_len:∀{l:List Vr} {v:List Va},fitB l v=true→l.length=v.length
 |[],[],_=>rfl
 |[],_::_,h=>by cases h
 |_::_,[],h=>by cases h
 |x::l,y::v,h=>by
  simp only[fitB,Bool.and_eq_true]at h
  simp only[List.length_cons,fitB_len h.2]
abbrev yc_fits (l:List Vr) (v:List Va):Prop:=l.length≤5000∧v.length≤5000
abbrev yr_fits (l:List Vr) (v:List Va):Value:=Value.bool (fitB l v)
attribute [local go_sem] Va.r Vr.r cSl cVq_d cVq_e decL_va pairN_o pairO_n rVa_e rVa_z spFn_n zVaD_ln zVr_ln2
set_option maxRecDepth 20000 in set_option maxHeartbeats 8000000 in
theorem y_fits:CallsR Try.prog 46 (ahS (cVq.H) (ahS (cSl rVa) ah0)) (fun p:(List Vr×(List Va×Unit))=>yc_fits p.1 p.2.1) (fun p:(List Vr×(List Va×Unit))=>ofV (yr_fits p.1 p.2.1)):=by
 rintro ⟨l,v,_u⟩ w fz xs hc hfz hl hx
 refine calls_toRL Try.func46 rfl w fz [] [] (ahS (cVq.H) (ahS (cSl rVa) ah0)) (fun p:(List Vr×(List Va×Unit))=>ofV (yr_fits p.1 p.2.1)) _ xs hfz hl hx (Nat.le_of_ble_eq_true rfl) ?_
 clear hx hl hfz xs
 simp only[Try.f46]
 obtain⟨hc1,hc2⟩:=hc
 dsimp only at hc1 hc2
 cases hl:((l.length:Int)==(v.length:Int)) with
 |false=>
  have hf:fitB l v=false:=by
   cases h:fitB l v with
   |false=>rfl
   |true=>rw[fitB_len h]at hl;simp at hl
  simp only[↓eB,seval,go_sem,hl,bne]
  try simp only[impB,impN]
  repeat' first|exact ck|with_reducible apply And.intro|intro _
  all_goals first|exact trivial|(rename_i h;first|exact oI h|exact nah h)|(rename_i _ h _ g;exact sL h g)|decide|omega|(refine ret_with [] ?_;simp only[↓eB,seval,go_sem,bne,yr_fits,hf])
 |true=>
 have hlen:l.length=v.length:=by have:=eq_of_beq hl;omega
 simp only[↓eB,seval,go_sem,hl,bne]
 refine loop_ok (Y:=Nat) (fun i=>i≤l.length∧fitB (l.drop i) (v.drop i)=fitB l v)
  (fun i=>⟨[(0,true,.one (.d (.sl zVr (l.map Vr.r)))),(1,true,.one (.d (.sl zVaD (v.map Va.r)))),(12,true,.one (.d (.sl zVr (l.map Vr.r)))),(13,true,.one (.v (.int .i64 (l.length:Int)))),(14,true,.one (.v (.int .i64 (i:Int))))],[]⟩)
  (fun i=>l.length-i) 0 ⟨Nat.zero_le _,rfl⟩ ?_ ?_
 ·refine to_with [] ?_;simp only[↓eB,seval,go_sem]
 ·rintro i ⟨hi,hJ⟩
  refine vc_ok [] [] _ _ _ ?_
  have w1:IntKind.i64.wrap ((i:Int)+1)=((i+1:Nat):Int):=by rw[wrap_i64 (by omega) (by omega)];rfl
  cases hx:l[i]? with
  |none=>
   have h2:=List.getElem?_eq_none_iff.1 hx
   have h1:=natI_ge h2
   rw[List.drop_eq_nil_of_le h2,List.drop_eq_nil_of_le (by omega)]at hJ
   have hJ':fitB l v=true:=hJ.symm
   simp only[↓eB,seval,go_sem,h1]
   try simp only[impB,impN]
   repeat' first|exact ck|with_reducible apply And.intro|intro _
   all_goals first|exact trivial|(rename_i h;first|exact oI h|exact nah h)|(rename_i _ h _ g;exact sL h g)|decide|omega|(refine ret_with [] ?_;simp only[↓eB,seval,go_sem,bne,yr_fits,hJ'])
  |some x=>
   have hlt:=(List.getElem?_eq_some_iff.1 hx).1
   have hlt2:i<v.length:=by omega
   have h1:=natI_lt hlt
   have h2:=vr_z hx
   obtain⟨y,hy⟩:∃y,v[i]?=some y:=⟨_,List.getElem?_eq_getElem hlt2⟩
   have h3:=va_z hy
   rw[drop_get hx,drop_get hy]at hJ
   simp only[fitB]at hJ
   cases hp:(x.p==y.p) with
   |false=>
    rw[hp,Bool.false_and]at hJ
    have hJ':fitB l v=false:=hJ.symm
    simp only[↓eB,seval,go_sem,h1,h2,h3,hp,bne]
    try simp only[impB,impN]
    repeat' first|exact ck|with_reducible apply And.intro|intro _
    all_goals first|exact hlt|exact hlt2|(rename_i h;first|exact oI h|exact nah h)|(rename_i _ h _ g;exact sL h g)|decide|omega|(refine ret_with [] ?_;simp only[↓eB,seval,go_sem,bne,yr_fits,hJ'])
   |true=>
    rw[hp,Bool.true_and]at hJ
    simp only[↓eB,seval,go_sem,h1,h2,h3,hp,bne,w1]
    try simp only[impB,impN]
    repeat' first|exact ck|with_reducible apply And.intro|intro _
    all_goals try first|exact hlt|exact hlt2|(rename_i h;first|exact oI h|exact nah h)|(rename_i _ h _ g;exact sL h g)|decide|omega
    refine⟨i+1,⟨hlt,hJ⟩,by omega,to_with [] ?_⟩
    simp only[↓eB,seval,go_sem]
theorem yh_fits:∀p:(List Vr×(List Va×Unit)),okV ((fun p:(List Vr×(List Va×Unit))=>yr_fits p.1 p.2.1) p)=true:=by intro p;rfl
noncomputable def yp_fits {X:Ctx} {w0:World}:Sy.Spec Try.prog X w0:=specR 46 Try.call46 (ahS (cVq.H) (ahS (cSl rVa) ah0)) (fun p:(List Vr×(List Va×Unit))=>yc_fits p.1 p.2.1) (fun p:(List Vr×(List Va×Unit))=>yr_fits p.1 p.2.1) yh_fits y_fits
end Go.Proofs.Ytjnnmindcbgjhab
