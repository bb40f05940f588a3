/- Arguments that point to cells, walked. No conditions but those in each statement. -/
import Derived.Test.YtjnnmindcbgjhabRmi
import Derived.Test.YtjnnmindcbgjhabRmc
import Derived.Test.YtjnnmindcbgjhabSy42
set_option linter.unusedVariables false
set_option linter.unusedSimpArgs false
namespace Go.Proofs.Ytjnnmindcbgjhab
open Go Go.Sy Go.RowKit
def poA (P:Pg) (a:Va):Bool:=if a.p=true then (if (a.s==[])=true then true else (P.ci a.s).isSome) else true
def poB (P:Pg):List Va→Bool
 |[]=>true
 |a::l=>poA P a&&poB P l
theorem poB_c (P:Pg) (a:Va) (l:List Va):poB P (a::l)=(poA P a&&poB P l):=rfl
abbrev yc_mPoint (p:Pg×Ms) (va:List Va):Prop:=va.length≤5000
abbrev yr_mPoint (p:Pg×Ms) (va:List Va):SV:=.one (.v (.bool (poB p.1 va)))
abbrev ym_mPoint (p:Pg×Ms) (va:List Va):List (Option MV):=[some (mcW p.1 p.2)]
noncomputable abbrev ya_mPoint:ArgM ((Pg×Ms)×(List Va)×Unit):=(amP (mMc) (amD (cVas) am0))
abbrev yq_mPoint:Prop:=CallsM Try.prog 47 ((ya_mPoint).args 0) (ya_mPoint).mem (fun p:(Pg×Ms)×(List Va)×Unit=>yc_mPoint p.1 p.2.1) (fun p:(Pg×Ms)×(List Va)×Unit=>yr_mPoint p.1 p.2.1) (fun p:(Pg×Ms)×(List Va)×Unit=>ym_mPoint p.1 p.2.1)
theorem yl_mPoint:∀p,(fun p:(Pg×Ms)×(List Va)×Unit=>yc_mPoint p.1 p.2.1) p→lenM ((ya_mPoint).mem p).length ((fun p:(Pg×Ms)×(List Va)×Unit=>ym_mPoint p.1 p.2.1) p)=true:=by intro p _;rfl
theorem yo_mPoint:∀p,(fun p:(Pg×Ms)×(List Va)×Unit=>yc_mPoint p.1 p.2.1) p→outV ((fun p:(Pg×Ms)×(List Va)×Unit=>ym_mPoint p.1 p.2.1) p).length ((fun p:(Pg×Ms)×(List Va)×Unit=>yr_mPoint p.1 p.2.1) p)=true:=by intro p _;first|rfl|exact ex_out _ _|exact cd_out _ _|(simp[outV,outC,ex_out,cd_out];done)
theorem yn_mPoint:∀p,(fun p:(Pg×Ms)×(List Va)×Unit=>yc_mPoint p.1 p.2.1) p→∀q,some q∈(fun p:(Pg×Ms)×(List Va)×Unit=>ym_mPoint p.1 p.2.1) p→∀r∈q.2,∀c∈r,c.names=[]:=by intro p _;exact mcW_nm _ _
attribute [local go_sem] Va.r cVas_d cVas_e mMc_d' mMc_e mMc_z mcC mcW ms_eta pg_eta pnOf_f pnOf_t wkR_me
set_option maxRecDepth 20000 in set_option maxHeartbeats 16000000 in
theorem y_mPoint:yq_mPoint:=by
 rintro ⟨p,va,_u⟩ w M I lab fz xs hc hA hl hx
 refine calls_toML Try.func47 rfl ((ya_mPoint).mem ⟨p,va,_u⟩) w M I lab fz [] [] ((ya_mPoint).args 0 ⟨p,va,_u⟩) ((fun p:(Pg×Ms)×(List Va)×Unit=>ym_mPoint p.1 p.2.1) ⟨p,va,_u⟩) ((fun p:(Pg×Ms)×(List Va)×Unit=>yr_mPoint p.1 p.2.1) ⟨p,va,_u⟩) xs hA hl hx (fun v hv k hk=>by have:=(ya_mPoint).an 0 ⟨p,va,_u⟩ v hv k hk;omega) (Nat.le_of_ble_eq_true rfl) (Nat.le_of_ble_eq_true rfl) ?_
 clear hx hl hA xs
 simp only[Try.f47]
 obtain⟨P,m⟩:=p
 dsimp only at hc
 simp only[↓eB,seval,go_sem]
 refine loop_ok (Y:=Nat) (fun i=>i≤va.length∧poB P (va.drop i)=poB P va)
  (fun i=>⟨[(0,true,.one (.p 0 0 0)),(9,true,.one (.d (.sl zVaD (va.map Va.r)))),(10,true,.one (.v (.int .i64 (va.length:Int)))),(11,true,.one (.v (.int .i64 (i:Int))))],[(0,.vec 0 zMc [mcC P m])]⟩)
  (fun i=>va.length-i) 0 ⟨Nat.zero_le _,rfl⟩ ?_ ?_
 ·refine to_with [] ?_;simp only[↓eB,seval,go_sem]
 ·rintro i ⟨hi,hJ⟩
  refine vc_ok [] [] _ _ _ ?_
  have w1:IntKind.i64.wrap ((i:Int)+1)=((i+1:Nat):Int):=by rw[wrap_i64 (by omega) (by omega)];rfl
  cases hx:va[i]? with
  |none=>
   have h2:=List.getElem?_eq_none_iff.1 hx
   have h1:=natI_ge h2
   have hp:poB P va=true:=by rw[← hJ,List.drop_eq_nil_of_le h2];rfl
   simp only[↓eB,seval,go_sem,h1]
   try simp only[impB,impN]
   repeat' first|exact ck|with_reducible apply And.intro|intro _
   all_goals first|exact trivial|(rename_i h;first|exact oI h|exact nah h)|(rename_i _ h _ g;exact sL h g)|decide|omega|(refine ret_with [] ?_;simp only[↓eB,seval,go_sem,bne,yr_mPoint,ym_mPoint,hp])
  |some a=>
   have hlt:=(List.getElem?_eq_some_iff.1 hx).1
   have h1:=natI_lt hlt
   have hil:(i:Int)<(va.length:Int):=by omega
   obtain⟨ap,an,az⟩:=a
   have hz:=va_z hx
   dsimp only at hz
   rw[drop_get hx,poB_c]at hJ
   have hgo:poA P ⟨ap,an,az⟩=true→poB P (va.drop (i+1))=poB P va:=by intro h;rw[← hJ,h];rfl
   cases ap with
   |false=>
    have hJ2:=hgo rfl
    simp only[↓eB,seval,go_sem,mp_ci,mp_ai,mp_fi,mp_vs,Va.c,Option.isSome_some,Option.isSome_none,h1,hz,w1]
    try simp only[impB,impN]
    repeat' first|exact ck|with_reducible apply And.intro|intro _
    all_goals try first|exact hil|(rename_i h;first|exact oI h|exact nah h)|(rename_i _ h _ g;exact sL h g)|decide|omega
    refine⟨i+1,⟨hlt,hJ2⟩,by omega,to_with [] ?_⟩
    simp only[↓eB,seval,go_sem]
   |true=>
   cases hs:(az==[]) with
   |true=>
    have hs2:az=[]:=eq_of_beq hs
    subst hs2
    have hJ2:=hgo rfl
    simp only[↓eB,seval,go_sem,mp_ci,mp_ai,mp_fi,mp_vs,Va.c,Option.isSome_some,Option.isSome_none,h1,hz,w1]
    try simp only[impB,impN]
    repeat' first|exact ck|with_reducible apply And.intro|intro _
    all_goals try first|exact hil|(rename_i h;first|exact oI h|exact nah h)|(rename_i _ h _ g;exact sL h g)|decide|omega
    refine⟨i+1,⟨hlt,hJ2⟩,by omega,to_with [] ?_⟩
    simp only[↓eB,seval,go_sem]
   |false=>
   cases hci:P.ci az with
   |none=>
    have hp:poB P va=false:=by
     rw[← hJ]
     have:poA P ⟨true,an,az⟩=false:=by unfold poA;simp only[hs,hci];rfl
     rw[this];rfl
    simp only[↓eB,seval,go_sem,mp_ci,mp_ai,mp_fi,mp_vs,Va.c,Option.isSome_some,Option.isSome_none,h1,hz,w1,hs,hci,bne]
    try simp only[impB,impN]
    repeat' first|exact ck|with_reducible apply And.intro|intro _
    all_goals first|exact hil|(rename_i h;first|exact oI h|exact nah h)|(rename_i _ h _ g;exact sL h g)|decide|omega|(refine ret_with [] ?_;simp only[↓eB,seval,go_sem,bne,yr_mPoint,ym_mPoint,hp])
   |some j=>
    have hJ2:=hgo (by unfold poA;simp only[hs,hci];rfl)
    simp only[↓eB,seval,go_sem,mp_ci,mp_ai,mp_fi,mp_vs,Va.c,Option.isSome_some,Option.isSome_none,h1,hz,w1,hs,hci,bne]
    try simp only[impB,impN]
    repeat' first|exact ck|with_reducible apply And.intro|intro _
    all_goals try first|exact hil|(rename_i h;first|exact oI h|exact nah h)|(rename_i _ h _ g;exact sL h g)|decide|omega
    refine⟨i+1,⟨hlt,hJ2⟩,by omega,to_with [] ?_⟩
    simp only[↓eB,seval,go_sem]
noncomputable def yp_mPoint {X:Ctx} {w0:World}:Sy.Spec Try.prog X w0:=specM 47 Try.call47 (ya_mPoint) (fun p:(Pg×Ms)×(List Va)×Unit=>yc_mPoint p.1 p.2.1) (fun p:(Pg×Ms)×(List Va)×Unit=>yr_mPoint p.1 p.2.1) (fun p:(Pg×Ms)×(List Va)×Unit=>ym_mPoint p.1 p.2.1) yl_mPoint yo_mPoint yn_mPoint y_mPoint
end Go.Proofs.Ytjnnmindcbgjhab
namespace Go.Proofs.Ytjnnmindcbgjhab
open Go Go.Sy Go.RowKit
def regOps:Option Code→Array Oper
 |some (.seq (.region _ o _) _)=>o
 |_=>#[]
def regRest:Option Code→Code
 |some (.seq _ c)=>c
 |_=>.skip
def catM (m:Ms):Ms:=if (m.e==0)=true then m.exh else m
abbrev pnM (P:Pg) (m:Ms):List (Nat×List C×List (List C)):=[(3,[.v (.bool false)],[[.p 0 0 0]]),(0,zMc,[mcC P m])]
abbrev stM:St:=⟨[(0,true,.one (.p 3 0 0)),(2,true,.one (.v (.bool true)))],[]⟩
noncomputable abbrev cloF:Option Code:=Try.f45.body
theorem clo_run {X:Ctx} {w0:World} (hpn:X.pn=none) (hdf:X.dfs=[]) {u u':FrameMode} {v:Value} {b:Bool} (x0:Value) (w:World)
  (hrec:∀(c₀:Frame) (cs:List Frame),c₀.mode=u→(match recoverD (c₀::cs) with|some (v,cs')=>(v,cs')|none=>(.nilIface,c₀::cs))=(v,{ c₀ with mode:=u' }::cs))
  (hb:(v= .nilIface∧b=false)∨∃t y,v= .iface t y∧b=true) (st:St)
  (hst:∀a:Act,a.tmps.size=15→a.tmps[0]?=some x0→a.tmps[2]?=some (.bool b)→a.defers=[]→Holds X w0 15 st a w) (Qf:St→Prop)
  (hv:vcOps (P:=Try.prog) (X:=X) (w0:=w0) [] 15 (regOps cloF) ((regOps cloF).toList.drop 2) st [] textT (fun s=>vc (P:=Try.prog) X w0 [] 15 [] (regRest cloF) s (fun e s'=>e= .normal∧Qf s'))) :
  CallsD Try.prog 45 #[x0] u w fun e u'' w'=>e= .returned (.tuple #[])∧u''=u'∧∃s' a',Qf s'∧Holds X w0 15 s' a' w':=by
 refine callsD_of_wpS Try.func45 rfl fun c₀ cs hu=>?_
 obtain⟨T,hT⟩:∃T:Array Value,T = #[x0]++Array.replicate (Try.f45.ntmps-(#[x0]:Array Value).size) undef:=⟨_,rfl⟩
 rw[← hT]
 have hsz:T.size=15:=by rw[hT];simp[Try.ntmps45]
 have t0:T[0]?=some x0:=by rw[hT];simp
 clear hT
 refine wpS_seq (wpS_first (v:=v) (cs':={ c₀ with mode:=u' }::cs) rfl rfl rfl (hrec c₀ cs hu) ?_)
 change wpOps _ _ _ (List.range' 1 (8+1)) _ _
 refine wp_asks (v:=.bool b) rfl rfl ?_ ?_
 ·rcases hb with⟨rfl,rfl⟩|⟨t,y,rfl,rfl⟩<;>simp[execOp,go_sem,Act.eval,Act.put,hsz]
 ·refine rest_ops (X:=X) (w0:=w0) (n:=15) (l:=(regOps cloF).toList.drop 2) (st:=st) [] ?_ ?_ ?_ hv ?_
  ·rintro ch a w _ ⟨_,_,_,_,_,_,hp⟩
   rw[hpn]at hp;exact hp.elim
  ·intro s' a1 w1 hvc hh
   show Code.wpS _ _ _ _ _ _
   refine wpS_of_wp (Code.wp_mono ?_ (vc_ok (P:=Try.prog) [] [] _ _ _ hvc a1 w1 hh))
   rintro e a' w' (⟨s',⟨rfl,hq⟩,hh'⟩|⟨ch,_,_,_,_,_,_,_,_,hp⟩)
   ·exact⟨by rw[hh'.defers,hdf],_,rfl,.tuple #[],by simp[results,Try.results45,go_sem],rfl,rfl,s',a',hq,hh'⟩
   ·rw[hpn]at hp;exact hp.elim
  ·intro j
   simp only[List.getElem?_drop,Array.getElem?_toList]
   rfl
  ·refine hst _ ?_ ?_ ?_ rfl
   ·simp[Act.put,hsz]
   ·simp[Act.put,t0]
   ·simp[Act.put,hsz]
attribute [local go_sem] mMc_d' mMc_e mMc_z mcC mcW ms_eta pg_eta pnOf_f pnOf_t wkR_me
theorem idle_run {X:Ctx} {w0:World} {I:Nm} {lab:Lab} {fz:Nat→Prop} {w:World} {h:List (Nat×Ch)} (hA:AtW X w0 I lab fz (lkp h) w) (x0:Value) :
  CallsD Try.prog 45 #[x0] .returning w fun e u' w'=>e= .returned (.tuple #[])∧u'= .returning∧∃I' lab' fz',AtW X w0 I' lab' fz' (lkp h) w':=by
 refine CallsD.mono (clo_run (X:=⟨X.M,X.Z,X.F,none,[],[]⟩) (w0:=w0) rfl rfl (u':=.returning) (v:=.nilIface) (b:=false) x0 w ?_ (.inl ⟨rfl,rfl⟩) ⟨[(2,true,.one (.v (.bool false)))],h⟩ ?_ (fun s'=>s'.h=h) ?_) ?_
 ·rintro ⟨⟩ cs hu
  simp only at hu
  subst hu
  simp[recoverD]
 ·intro a a1 a2 a3 a4
  refine⟨?_,I,lab,fz,a1,⟨a4,fun p hp=>by cases hp⟩,?_,⟨hA.h,hA.wf,hA.own,hA.fzl,hA.fzo,hA.kept,hA.fix⟩⟩
  ·intro j g v hj _ k hk
   simp only[lkp]at hj
   split at hj
   ·simp only[Option.some.injEq,Prod.mk.injEq]at hj
    obtain⟨_,rfl⟩:=hj
    cases hk
   ·cases hj
  ·intro j g v hj
   simp only[lkp]at hj
   split at hj
   ·rename_i e
    subst e
    simp only[Option.some.injEq,Prod.mk.injEq]at hj
    obtain⟨rfl,rfl⟩:=hj
    exact⟨_,a3,rfl,.v _ _ rfl⟩
   ·cases hj
 ·simp only[cloF,Try.f45,regOps,regRest,List.drop_succ_cons,List.drop_zero]
  simp only[↓eB,seval,go_sem]
 ·rintro e u' w' ⟨rfl,rfl,s',a',hq,_,I',lab',fz',hh⟩
  refine⟨rfl,rfl,I',lab',fz',?_⟩
  rw[← hq]
  exact⟨hh.m.h,hh.m.wf,hh.m.own,hh.m.fzl,hh.m.fzo,hh.m.kept,hh.m.fix⟩
theorem catch_run {X:Ctx} {w0:World} {I:Nm} {lab:Lab} {fz:Nat→Prop} {w:World} (P:Pg) (m:Ms) (hA:AtW X w0 I lab fz (lkp (pnH (pnM P m))) w) (hF:∀q∈X.F,q.1∈[0,3]) (t:TypeId) (y:Value) :
  CallsD Try.prog 45 #[(I 3).p 0 0] (.panicking [{ v:=.iface t y,recovered:=false }]) w fun e u' w'=>e= .returned (.tuple #[])∧u'= .panicking [{ v:=.iface t y,recovered:=true }]∧
   ∃I' lab' fz',AtW X w0 I' lab' fz' (lkp [(0,.vec 0 zMc [mcC P (catM m)]),(3,.dead)]) w':=by
 refine CallsD.mono (clo_run (X:=⟨X.M,X.Z,X.F,none,[],[]⟩) (w0:=w0) rfl rfl (u':=.panicking [{ v:=.iface t y,recovered:=true }]) (v:=.iface t y) (b:=true) ((I 3).p 0 0) w ?_ (.inr ⟨t,y,rfl,rfl⟩) ⟨stM.e,pnH (pnM P m)⟩ ?_
  (fun s'=>∀q∈[(0,Ch.vec 0 zMc [mcC P (catM m)]),(3,.dead)],optCh (lkp s'.h q.1) q.2∧domB [(0,Ch.vec 0 zMc [mcC P (catM m)]),(3,.dead)] (chNames q.2)) ?_) ?_
 ·intro c₀ cs hu
  simp[recoverD,hu]
 ·intro a a1 a2 a3 a4
  refine⟨?_,I,lab,fz,a1,⟨a4,fun p hp=>by cases hp⟩,?_,⟨hA.h,hA.wf,hA.own,hA.fzl,hA.fzo,hA.kept,hA.fix⟩⟩
  ·intro j g v hj _ k hk
   simp only[stM,lkp]at hj
   repeat' split at hj
   all_goals first
    |cases hj;done
    |(
     simp only[Option.some.injEq,Prod.mk.injEq]at hj
     obtain⟨_,rfl⟩:=hj
     first
      |cases hk;done
      |(
       simp only[SV.names,C.names,List.mem_singleton]at hk
       subst hk
       exact pnH_some (by simp)))
  ·intro j g v hj
   simp only[stM,lkp]at hj
   repeat' split at hj
   all_goals first
    |cases hj;done
    |(
     rename_i e
     subst e
     simp only[Option.some.injEq,Prod.mk.injEq]at hj
     obtain⟨rfl,rfl⟩:=hj
     first
      |exact⟨_,a2,rfl,.p _ _ _ _⟩
      |exact⟨_,a3,rfl,.v _ _ rfl⟩)
 ·obtain⟨fu,dp,cs,ar,e0,v0,f0,al0,k0⟩:=m
  cases he:(e0==0) with
  |false=>
   have hc:catM ⟨fu,dp,cs,ar,e0,v0,f0,al0,k0⟩=⟨fu,dp,cs,ar,e0,v0,f0,al0,k0⟩:=if_neg (by show ¬(e0==0)=true;rw[he];decide)
   simp only[cloF,Try.f45,regOps,regRest,List.drop_succ_cons,List.drop_zero]
   simp only[↓eB,seval,go_sem,stM,pnM,pnH,he,hc]
   try simp only[impB,impN]
   repeat' (first|exact ck|with_reducible apply And.intro)
   all_goals try first|decide|omega
  |true=>
   have hc:catM ⟨fu,dp,cs,ar,e0,v0,f0,al0,k0⟩=⟨fu,dp,cs,ar,2,0,[],0,0⟩:=if_pos he
   simp only[cloF,Try.f45,regOps,regRest,List.drop_succ_cons,List.drop_zero]
   simp only[↓eB,seval,go_sem,stM,pnM,pnH,he,hc]
   try simp only[impB,impN]
   repeat' (first|exact ck|with_reducible apply And.intro)
   all_goals try first|decide|omega
 ·rintro e u' w' ⟨rfl,rfl,s',a',hq,_,I',lab',fz',hh⟩
  refine⟨rfl,rfl,I',lab',fz',?_⟩
  have h1:=at_sub (X:=⟨X.M,X.Z,X.F,none,[],[]⟩) hh.m hq (fun q hq=>by have:=hF q hq;simpa using this)
  exact⟨h1.h,h1.wf,h1.own,h1.fzl,h1.fzo,h1.kept,h1.fix⟩
end Go.Proofs.Ytjnnmindcbgjhab
