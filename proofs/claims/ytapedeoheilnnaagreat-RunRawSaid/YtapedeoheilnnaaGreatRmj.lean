/- Arguments that point to cells, walked. No conditions but those in each statement. -/
import Derived.Test.YtapedeoheilnnaaGreatRmi
import Derived.Test.YtapedeoheilnnaaGreatRmc
import Derived.Test.YtapedeoheilnnaaGreatPgm
set_option linter.all false
open Option (isSome_some isSome_none)
namespace Go.Proofs.YtapedeoheilnnaaGreat
open Go Go.Sy Go.RowKit
variable{X:Ctx}{w0:World}
def poA(P:Pg)(a:Va):Bool:=if a.p=true then (if (a.s==[])=true then true else (P.ci a.s).isSome) else true
def poB(P:Pg):List Va->Bool
 |[]=>true
 |a::l=>poA P a&&poB P l
theorem fM(P:Pg)(a:Va)(l:List Va):poB P (a::l)=(poA P a&&poB P l):=rfl
abbrev jL(p:Pg×Ms)(va:List Va):Prop:=va.length<=5000
abbrev GV(p:Pg×Ms)(va:List Va):SV:=.one (.v (.bool (poB p.1 va)))
abbrev GW(p:Pg×Ms)(va:List Va):List (Option MV):=[some (mcW p.1 p.2)]
noncomputable abbrev Kl:ArgM ((Pg×Ms)×(List Va)×Unit):=(amP (mMc) (amD (LC) am0))
abbrev jM:Prop:=Bv Tryz.prog 50 ((Kl).args 0) (Kl).mem (λp:(Pg×Ms)×(List Va)×Unit=>jL p.1 p.2.1) (λp:(Pg×Ms)×(List Va)×Unit=>GV p.1 p.2.1) (λp:(Pg×Ms)×(List Va)×Unit=>GW p.1 p.2.1)
attribute [local go_sem] Va.r Ag Af Gg ID IE mcC mcW EG Dq GJ GI
set_option maxRecDepth 20000 in set_option maxHeartbeats 16000000 in
theorem nR:jM:=by
 rintro ⟨p,va,_u⟩ w M I lab fz xs hc hA hl hx
 refine Aa Tryz.func50 rfl ((Kl).mem ⟨p,va,_u⟩) w M I lab fz [] [] ((Kl).args 0 ⟨p,va,_u⟩) ((λp:(Pg×Ms)×(List Va)×Unit=>GW p.1 p.2.1) ⟨p,va,_u⟩) ((λp:(Pg×Ms)×(List Va)×Unit=>GV p.1 p.2.1) ⟨p,va,_u⟩) xs hA hl hx (λv hv k hk=>by have:=(Kl).an 0 ⟨p,va,_u⟩ v hv k hk;omega) (jN rfl) (jN rfl) ?_
 clear hx hl hA xs
 simp only[Tryz.f50]
 obtain⟨P,m⟩:=p
 dsimp only at hc
 simp only[seval,go_sem]
 refine AK (Y:=Nat) (λi=>i<=va.length/\poB P (va.drop i)=poB P va)
  (λi=>⟨[(0,true,.one (.p 0 0 0)),(9,true,.one (.d (.sl Gj (va.map Va.r)))),(10,true,.one (.v (.int .i64 (va.length:Int)))),(11,true,.one (.v (.int .i64 (i:Int))))],[(0,.vec 0 zMc [mcC P m])]⟩)
  (λi=>va.length-i) 0 ⟨Nat.zero_le _,rfl⟩ ?_ ?_
 .refine A4 [] ?_;simp only[seval,go_sem]
 rintro i ⟨hi,hJ⟩
 refine AZ [] [] _ _ _ ?_
 have w1:IntKind.i64.wrap ((i:Int)+1)=((i+1:Nat):Int):=by rw[wrap_i64 (by omega) (by omega)];rfl
 cases hx:va[i]? with
 |none=>
  have h2:=List.getElem?_eq_none_iff.1 hx
  have h1:=B9 h2
  have hp:poB P va=true:=by rw[<- hJ,List.drop_eq_nil_of_le h2];rfl
  simp only[seval,go_sem,h1]
  try simp only[A2,A3]
  repeat' first|exact ck|with_reducible apply And.intro|intro _
  all_goals first|exact trivial|exact KZ|(refine A1 [] ?_;simp only[seval,go_sem,bne,GV,GW,hp])
 |some a=>
 have hlt:=(List.getElem?_eq_some_iff.1 hx).1
 have h1:=B8 hlt
 have hil:(i:Int)<(va.length:Int):=by omega
 obtain⟨ap,an,az⟩:=a
 have hz:=UP hx
 dsimp only at hz
 rw[BJ hx,fM]at hJ
 have hgo:poA P ⟨ap,an,az⟩=true->poB P (va.drop (i+1))=poB P va:=by intro h;rw[<- hJ,h];rfl
 cases ap with
 |false=>
  have hJ2:=hgo rfl
  simp only[seval,go_sem,CB,CC,CE,CF,Va.c,isSome_some,isSome_none,h1,hz,w1]
  try simp only[A2,A3]
  repeat' first|exact ck|with_reducible apply And.intro|intro _
  all_goals try first|exact hil|exact KZ
  refine⟨i+1,⟨hlt,hJ2⟩,by omega,A4 [] ?_⟩
  simp only[seval,go_sem]
 |true=>
 cases hs:(az==[]) with
 |true=>
  have hs2:az=[]:=eq_of_beq hs
  subst hs2
  have hJ2:=hgo rfl
  simp only[seval,go_sem,CB,CC,CE,CF,Va.c,isSome_some,isSome_none,h1,hz,w1]
  try simp only[A2,A3]
  repeat' first|exact ck|with_reducible apply And.intro|intro _
  all_goals try first|exact hil|exact KZ
  refine⟨i+1,⟨hlt,hJ2⟩,by omega,A4 [] ?_⟩
  simp only[seval,go_sem]
 |false=>
 cases hci:P.ci az with
 |none=>
  have hp:poB P va=false:=by
   rw[<- hJ]
   have:poA P ⟨true,an,az⟩=false:=by unfold poA;simp only[hs,hci];rfl
   rw[this];rfl
  simp only[seval,go_sem,CB,CC,CE,CF,Va.c,isSome_some,isSome_none,h1,hz,w1,hs,hci,bne]
  try simp only[A2,A3]
  repeat' first|exact ck|with_reducible apply And.intro|intro _
  all_goals first|exact hil|exact KZ|(refine A1 [] ?_;simp only[seval,go_sem,bne,GV,GW,hp])
 |some j=>
 have hJ2:=hgo (by unfold poA;simp only[hs,hci];rfl)
 simp only[seval,go_sem,CB,CC,CE,CF,Va.c,isSome_some,isSome_none,h1,hz,w1,hs,hci,bne]
 try simp only[A2,A3]
 repeat' first|exact ck|with_reducible apply And.intro|intro _
 all_goals try first|exact hil|exact KZ
 refine⟨i+1,⟨hlt,hJ2⟩,by omega,A4 [] ?_⟩
 simp only[seval,go_sem]
noncomputable def JQ{X:Ctx}{w0:World}:Sy.Spec Tryz.prog X w0:=Cl 50 Tryz.call50 (Kl) _ _ _ KF1 KF0 KF8 nR
def QE:Option Code->Array Oper
 |some (.seq (.region _ o _) _)=>o
 |_=>#[]
def TV:Option Code->Code
 |some (.seq _ c)=>c
 |_=>.skip
def OA(m:Ms):Ms:=if (m.e==0)=true then m.exh else m
abbrev pnM(P:Pg)(m:Ms):List (Nat×List C×List (List C)):=[(3,[.v (.bool false)],[[.p 0 0 0]]),(0,zMc,[mcC P m])]
abbrev stM:St:=⟨[(0,true,.one (.p 3 0 0)),(2,true,.one (.v (.bool true)))],[]⟩
noncomputable abbrev UT:Option Code:=Tryz.f48.body
theorem dT{w0:World}(hpn:X.pn=none)(hdf:X.dfs=[]){u u':FrameMode}{v:Value}{b:Bool}(x0:Value)(w:World)
  (hrec:∀(c₀:Frame) (cs:List Frame),c₀.mode=u->(match recoverD (c₀::cs) with|some (v,cs')=>(v,cs')|none=>(.nilIface,c₀::cs))=(v,{ c₀ with mode:=u' }::cs))
  (hb:(v= .nilIface/\b=false)∨∃t y,v= .iface t y/\b=true) (st:St)
  (hst:∀a:Act,a.tmps.size=15->a.tmps[0]?=some x0->a.tmps[2]?=some (.bool b)->a.defers=[]->Holds X w0 15 st a w) (Qf:St->Prop)
  (hv:Jv (P:=Tryz.prog) (X:=X) (w0:=w0) [] 15 (QE UT) ((QE UT).toList.drop 2) st [] ZC (λs=>vc (P:=Tryz.prog) X w0 [] 15 [] (TV UT) s (λe s'=>e= .normal/\Qf s'))) :
  CallsD Tryz.prog 48 #[x0] u w λe u'' w'=>e= .returned (.tuple #[])/\u''=u'/\∃s' a',Qf s'/\Holds X w0 15 s' a' w':=by
 refine callsD_of_wpS Tryz.func48 rfl λc₀ cs hu=>?_
 obtain⟨T,hT⟩:∃T:Array Value,T = #[x0]++Array.replicate (Tryz.f48.ntmps-(#[x0]:Array Value).size) undef:=⟨_,rfl⟩
 rw[<- hT]
 have hsz:T.size=15:=by rw[hT];simp[Tryz.ntmps48]
 have t0:T[0]?=some x0:=by rw[hT];simp
 clear hT
 refine wpS_seq (jp (v:=v) (cs':={ c₀ with mode:=u' }::cs) rfl rfl rfl (hrec c₀ cs hu) ?_)
 change wpOps _ _ _ (List.range' 1 (8+1)) _ _
 refine uj (v:=.bool b) rfl rfl ?_ ?_
 .rcases hb with⟨rfl,rfl⟩|⟨t,y,rfl,rfl⟩<;>simp[execOp,go_sem,Act.eval,Act.put,hsz]
 .refine ml (X:=X) (w0:=w0) (n:=15) (l:=(QE UT).toList.drop 2) (st:=st) [] ?_ ?_ ?_ hv ?_
  .rintro ch a w _ ⟨_,_,_,_,_,_,hp⟩
   rw[hpn]at hp;exact hp.elim
  .intro s' a1 w1 hvc hh
   show Code.wpS _ _ _ _ _ _
   refine wpS_of_wp (Code.wp_mono ?_ (AZ (P:=Tryz.prog) [] [] _ _ _ hvc a1 w1 hh))
   rintro e a' w' (⟨s',⟨rfl,hq⟩,hh'⟩|⟨ch,_,_,_,_,_,_,_,_,hp⟩)
   .exact⟨by rw[hh'.defers,hdf],_,rfl,.tuple #[],by simp[results,Tryz.results48,go_sem],rfl,rfl,s',a',hq,hh'⟩
   .rw[hpn]at hp;exact hp.elim
  .intro j
   simp only[List.getElem?_drop,Array.getElem?_toList]
   rfl
  .refine hst _ ?_ ?_ ?_ rfl
   .simp[Act.put,hsz]
   .simp[Act.put,t0]
   .simp[Act.put,hsz]
attribute [local go_sem] Gg ID IE mcC mcW EG Dq GJ GI
theorem nS{I:Nm}{lab:Lab}{fz:Nat->Prop}{w:World}{h:List (Nat×Ch)}(hA:AtW X w0 I lab fz (lkp h) w)(x0:Value):
  CallsD Tryz.prog 48 #[x0] .returning w λe u' w'=>e= .returned (.tuple #[])/\u'= .returning/\∃I' lab' fz',AtW X w0 I' lab' fz' (lkp h) w':=by
 refine CallsD.mono (dT (X:=⟨X.M,X.Z,X.F,none,[],[]⟩) (w0:=w0) rfl rfl (u':=.returning) (v:=.nilIface) (b:=false) x0 w ?_ (.inl ⟨rfl,rfl⟩) ⟨[(2,true,.one (.v (.bool false)))],h⟩ ?_ (λs'=>s'.h=h) ?_) ?_
 .rintro ⟨⟩ cs hu
  simp only at hu
  subst hu
  simp[recoverD]
 .intro a a1 a2 a3 a4
  refine⟨?_,I,lab,fz,a1,⟨a4,λp hp=>by cases hp⟩,?_,⟨hA.h,hA.wf,hA.own,hA.fzl,hA.fzo,hA.kept,hA.fix⟩⟩
  .intro j g v hj _ k hk
   simp only[lkp]at hj
   split at hj
   .simp only[jS,jP]at hj
    obtain⟨_,rfl⟩:=hj
    cases hk
   .cases hj
  .intro j g v hj
   simp only[lkp]at hj
   split at hj
   .rename_i e
    subst e
    simp only[jS,jP]at hj
    obtain⟨rfl,rfl⟩:=hj
    exact⟨_,a3,rfl,.v _ _ rfl⟩
   .cases hj
 .simp only[UT,Tryz.f48,QE,TV,List.drop_succ_cons,List.drop_zero]
  simp only[seval,go_sem]
 .rintro e u' w' ⟨rfl,rfl,s',a',hq,_,I',lab',fz',hh⟩
  refine⟨rfl,rfl,I',lab',fz',?_⟩
  rw[<- hq]
  exact⟨hh.m.h,hh.m.wf,hh.m.own,hh.m.fzl,hh.m.fzo,hh.m.kept,hh.m.fix⟩
theorem jO{X:Ctx}{I:Nm}{lab:Lab}{fz:Nat->Prop}{w:World}(P:Pg)(m:Ms)(hA:AtW X w0 I lab fz (lkp (pnH (pnM P m))) w)(hF:∀q∈X.F,q.1∈[0,3])(t:TypeId)(y:Value):
  CallsD Tryz.prog 48 #[(I 3).p 0 0] (.panicking [{ v:=.iface t y,recovered:=false }]) w λe u' w'=>e= .returned (.tuple #[])/\u'= .panicking [{ v:=.iface t y,recovered:=true }]/\
   ∃I' lab' fz',AtW X w0 I' lab' fz' (lkp [(0,.vec 0 zMc [mcC P (OA m)]),(3,.dead)]) w':=by
 refine CallsD.mono (dT (X:=⟨X.M,X.Z,X.F,none,[],[]⟩) (w0:=w0) rfl rfl (u':=.panicking [{ v:=.iface t y,recovered:=true }]) (v:=.iface t y) (b:=true) ((I 3).p 0 0) w ?_ (.inr ⟨t,y,rfl,rfl⟩) ⟨stM.e,pnH (pnM P m)⟩ ?_
  (λs'=>∀q∈[(0,Ch.vec 0 zMc [mcC P (OA m)]),(3,.dead)],KI (lkp s'.h q.1) q.2/\Kc [(0,Ch.vec 0 zMc [mcC P (OA m)]),(3,.dead)] (chNames q.2)) ?_) ?_
 .intro c₀ cs hu
  simp[recoverD,hu]
 .intro a a1 a2 a3 a4
  refine⟨?_,I,lab,fz,a1,⟨a4,λp hp=>by cases hp⟩,?_,⟨hA.h,hA.wf,hA.own,hA.fzl,hA.fzo,hA.kept,hA.fix⟩⟩
  .intro j g v hj _ k hk
   simp only[stM,lkp]at hj
   repeat' split at hj
   all_goals first
    |cases hj;done
    |(
     simp only[jS,jP]at hj
     obtain⟨_,rfl⟩:=hj
     first
      |cases hk;done
      |(
       simp only[SV.names,C.names,List.mem_singleton]at hk
       subst hk
       exact RE (by simp)))
  .intro j g v hj
   simp only[stM,lkp]at hj
   repeat' split at hj
   all_goals first
    |cases hj;done
    |(
     rename_i e
     subst e
     simp only[jS,jP]at hj
     obtain⟨rfl,rfl⟩:=hj
     first
      |exact⟨_,a2,rfl,.p _ _ _ _⟩
      |exact⟨_,a3,rfl,.v _ _ rfl⟩)
 .obtain⟨fu,dp,cs,ar,e0,v0,f0,al0,k0⟩:=m
  cases he:(e0==0) with
  |false=>
   have hc:OA ⟨fu,dp,cs,ar,e0,v0,f0,al0,k0⟩=⟨fu,dp,cs,ar,e0,v0,f0,al0,k0⟩:=if_neg (by show ¬(e0==0)=true;rw[he];decide)
   simp only[UT,Tryz.f48,QE,TV,List.drop_succ_cons,List.drop_zero]
   simp only[seval,go_sem,stM,pnM,pnH,he,hc]
   try simp only[A2,A3]
   repeat' (first|exact ck|with_reducible apply And.intro)
   all_goals try first|decide|omega
  |true=>
   have hc:OA ⟨fu,dp,cs,ar,e0,v0,f0,al0,k0⟩=⟨fu,dp,cs,ar,2,0,[],0,0⟩:=if_pos he
   simp only[UT,Tryz.f48,QE,TV,List.drop_succ_cons,List.drop_zero]
   simp only[seval,go_sem,stM,pnM,pnH,he,hc]
   try simp only[A2,A3]
   repeat' (first|exact ck|with_reducible apply And.intro)
   all_goals try first|decide|omega
 .rintro e u' w' ⟨rfl,rfl,s',a',hq,_,I',lab',fz',hh⟩
  refine⟨rfl,rfl,I',lab',fz',?_⟩
  have h1:=QS (X:=⟨X.M,X.Z,X.F,none,[],[]⟩) hh.m hq (λq hq=>by have:=hF q hq;simpa using this)
  exact⟨h1.h,h1.wf,h1.own,h1.fzl,h1.fzo,h1.kept,h1.fix⟩
end Go.Proofs.YtapedeoheilnnaaGreat
