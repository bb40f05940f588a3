/- ParseMany, walked. No conditions but those in each statement. -/
import Derived.Test.YtodppgiaimihfabDoorPz65
set_option linter.unusedVariables false
set_option linter.unusedSimpArgs false
namespace Go.Proofs.YtodppgiaimihfabDoor
open Go Go.Sy Go.RowKit
def fA (z:Nat):Int:=if 6<z then 17 else 0
def fB (p z:Nat):Int:=if 6<p then 17 else if 20<z then (pO p:Int)+124 else 0
def fC (p l z:Nat):Int:=if 6<p then 17 else if 20<l then (pO p:Int)+124 else if 200<z then ((pO p+l*6:Nat):Int)+800 else 0
def fD (z:Nat):Int:=if 20<z then 145 else 0
theorem fB_0 (p:Nat):fB p 0=fA p:=by unfold fB fA;split<;>rfl
theorem fC_0 (p l:Nat):fC p l 0=fB p l:=by unfold fC fB;split;rfl;split<;>rfl
theorem prT_1 {z:Nat} (h:0<z):prT (z+1)=prT z++[44]++[112]:=by
 show (if z=0 then prT z else prT z++[44])++[112]=_
 rw[if_neg (by omega)]
abbrev yc_ParseMany (a:Int) (b:Int) (c:Int) (d:Int):Prop:=0≤a∧0≤b∧0≤c∧0≤d
abbrev yr_ParseMany (a:Int) (b:Int) (c:Int) (d:Int):SV:=.one (.v (.bool true))
noncomputable abbrev ya_ParseMany:ArgC ((Int)×(Int)×(Int)×(Int)×Unit):=(acS (cInt .u8) (acS (cInt .u8) (acS (cInt .u16) (acS (cInt .u8) ac0))))
abbrev yq_ParseMany:Prop:=CallsY Tryd.prog 4 ya_ParseMany (fun p:(Int)×(Int)×(Int)×(Int)×Unit=>yc_ParseMany p.1 p.2.1 p.2.2.1 p.2.2.2.1) (fun p:(Int)×(Int)×(Int)×(Int)×Unit=>yr_ParseMany p.1 p.2.1 p.2.2.1 p.2.2.2.1)
attribute [local go_sem] Fn.c Gl.d
set_option maxRecDepth 20000 in set_option maxHeartbeats 16000000 in
theorem y_ParseMany:yq_ParseMany:=by
 rintro ⟨a,b,c,d,_u⟩ w fz xs hc hfz hl hx
 refine calls_toL Tryd.func4 rfl w fz [yp_known7,yp_qFunc,yp_qGlobals] [] ya_ParseMany (fun p:(Int)×(Int)×(Int)×(Int)×Unit=>yr_ParseMany p.1 p.2.1 p.2.2.1 p.2.2.2.1) _ xs hfz hl hx (Nat.le_of_ble_eq_true rfl) ?_
 clear hx hl hfz xs
 simp only[Tryd.f4]
 obtain⟨ha,hb,hc,hd⟩:=hc
 dsimp only at ha hb hc hd
 obtain⟨p,hp,hp8⟩:∃p:Nat,a.tmod 9=(p:Int)∧p≤8:=by
  have h1:=Int.tmod_nonneg 9 ha
  have h2:=Int.tmod_lt_of_pos a (b:=9) (by decide)
  exact⟨(a.tmod 9).toNat,by omega,by omega⟩
 obtain⟨l,hl,hl23⟩:∃l:Nat,b.tmod 24=(l:Int)∧l≤23:=by
  have h1:=Int.tmod_nonneg 24 hb
  have h2:=Int.tmod_lt_of_pos b (b:=24) (by decide)
  exact⟨(b.tmod 24).toNat,by omega,by omega⟩
 obtain⟨n,hn,hn204⟩:∃n:Nat,c.tmod 205=(n:Int)∧n≤204:=by
  have h1:=Int.tmod_nonneg 205 hc
  have h2:=Int.tmod_lt_of_pos c (b:=205) (by decide)
  exact⟨(c.tmod 205).toNat,by omega,by omega⟩
 obtain⟨g,hg,hg23⟩:∃g:Nat,d.tmod 24=(g:Int)∧g≤23:=by
  have h1:=Int.tmod_nonneg 24 hd
  have h2:=Int.tmod_lt_of_pos d (b:=24) (by decide)
  exact⟨(d.tmod 24).toNat,by omega,by omega⟩
 have w1:IntKind.i64.wrap (p:Int)=(p:Int):=wrap_i64 (by omega) (by omega)
 have w2:IntKind.i64.wrap (l:Int)=(l:Int):=wrap_i64 (by omega) (by omega)
 have w3:IntKind.i64.wrap (n:Int)=(n:Int):=wrap_i64 (by omega) (by omega)
 have w4:IntKind.i64.wrap (g:Int)=(g:Int):=wrap_i64 (by omega) (by omega)
 have hs:=pm_small hp8 hl23 hn204
 simp only[↓eB,seval,go_sem,yp_known7,yr_known7,yp_qFunc,yp_qGlobals,hp,hl,hn,hg,w1,w2,w3,w4]
 refine loop_ok (Y:=Nat) (fun z=>z≤p)
  (fun z=>⟨[(9,true,.one (.v (.int .i64 (p:Int)))),(10,true,.one (.v (.int .i64 (l:Int)))),(11,true,.one (.v (.int .i64 (n:Int)))),(12,true,.one (.v (.int .i64 (g:Int)))),(13,true,.one (.v (.string (bs (102::110::32::102::40::prT z))))),(14,true,.one (.v (.int .i64 (fA z)))),(15,true,.one (.v (.int .i64 (z:Int))))],[]⟩)
  (fun z=>p-z) 0 (Nat.zero_le _) ?_ ?_
 ·refine to_with [] ?_;simp only[↓eB,seval,go_sem,prT,fA]
 rintro z hz
 refine vc_ok [yp_known7,yp_qFunc,yp_qGlobals] [] _ _ _ ?_
 have pl:=prT_len z
 cases hx:decide ((z:Int)<(p:Int)) with
 |true=>
  have hlt:=of_decide_eq_true hx
  have w5:IntKind.i64.wrap ((z:Int)+1)=((z+1:Nat):Int):=by rw[wrap_i64 (by omega) (by omega)];rfl
  rcases Nat.eq_zero_or_pos z with rfl|h0
  ·have hx:decide ((0:Int)<(p:Int))=true:=hx
   simp only[↓eB,seval,go_sem,yp_known7,yr_known7,yp_qFunc,yp_qGlobals,hx,w5,prT,fA]
   try simp only[impB,impN]
   repeat' (first|exact ck|with_reducible apply And.intro)
   all_goals try first|decide|omega
   refine⟨1,by omega,by omega,to_with [] ?_⟩
   simp only[↓eB,seval,go_sem,prT,fA]
  ·have c0:decide ((0:Int)<(z:Int))=true:=by rw[decide_eq_true_eq];omega
   by_cases h6:z=6
   ·subst h6
    have hx:decide ((6:Int)<(p:Int))=true:=hx
    have p6:(prT 6++[44]).length=12:=by rw[List.length_append,pl];rfl
    have e1:=prT_1 (z:=6) (by decide)
    simp only[↓eB,seval,go_sem,yp_known7,yr_known7,yp_qFunc,yp_qGlobals,hx,w5,p6,fA]
    try simp only[impB,impN]
    repeat' (first|exact ck|with_reducible apply And.intro)
    all_goals try first|exact pl|decide|omega
    refine⟨7,by omega,by omega,to_with [] ?_⟩
    simp only[↓eB,seval,go_sem,e1,fA]
   ·have c6:((z:Int)==6)=false:=by rw[beq_eq_false_iff_ne];omega
    have e1:=prT_1 h0
    have e2:fA (z+1)=fA z:=by unfold fA;split<;>split<;>first|rfl|omega
    obtain⟨M,hM⟩:∃M,(prT z++[44]).length=M:=⟨_,rfl⟩
    have hM2:M≤20:=by rw[List.length_append,pl]at hM;simp at hM;omega
    simp only[↓eB,seval,go_sem,yp_known7,yr_known7,yp_qFunc,yp_qGlobals,hx,w5,c0,c6,hM]
    try simp only[impB,impN]
    repeat' (first|exact ck|with_reducible apply And.intro)
    all_goals try first|exact pl|decide|omega
    refine⟨z+1,by omega,by omega,to_with [] ?_⟩
    simp only[↓eB,seval,go_sem,e1,e2]
 |false=>
 have hge:=of_decide_eq_false hx
 obtain rfl:z=p:=by omega
 obtain⟨P,hP⟩:∃P,prT z=P:=⟨_,rfl⟩
 have hPl:P.length=2*z-1:=by rw[← hP];exact pl
 have hPT:pmT z l n=102::110::32::102::40::(P++[41,123]++rpL [118,97,114,32,118,59] l++rpL [120,61,49,59] n++[125]):=by rw[← hP];rfl
 simp only[↓eB,seval,go_sem,yp_known7,yr_known7,yp_qFunc,yp_qGlobals,hx,hP]
 try simp only[impB,impN]
 repeat' (first|exact ck|with_reducible apply And.intro)
 all_goals try first|decide|omega
 refine loop_ok (Y:=Nat) (fun y=>y≤l)
  (fun y=>⟨[(9,true,.one (.v (.int .i64 (z:Int)))),(10,true,.one (.v (.int .i64 (l:Int)))),(11,true,.one (.v (.int .i64 (n:Int)))),(12,true,.one (.v (.int .i64 (g:Int)))),(13,true,.one (.v (.string (bs (102::110::32::102::40::(P++[41,123]++rpL [118,97,114,32,118,59] y)))))),(14,true,.one (.v (.int .i64 (fB z y)))),(16,true,.one (.v (.int .i64 (y:Int))))],[]⟩)
  (fun y=>l-y) 0 (Nat.zero_le _) ?_ ?_
 ·refine to_with [] ?_;simp only[↓eB,seval,go_sem,rpL,fB_0]
 rintro y hy
 refine vc_ok [yp_known7,yp_qFunc,yp_qGlobals] [] _ _ _ ?_
 obtain⟨M,hM⟩:∃M,(P++[41,123]++rpL [118,97,114,32,118,59] y).length=M:=⟨_,rfl⟩
 have hM2:M=2*z-1+2+6*y:=by
  rw[← hM,List.length_append,List.length_append,hPl,rpL_len];simp;omega
 obtain⟨F,hF⟩:∃F,fB z y=F:=⟨_,rfl⟩
 cases hx2:decide ((y:Int)<(l:Int)) with
 |true=>
  have hlt:=of_decide_eq_true hx2
  have w5:IntKind.i64.wrap ((y:Int)+1)=((y+1:Nat):Int):=by rw[wrap_i64 (by omega) (by omega)];rfl
  have e1:P++[41,123]++rpL [118,97,114,32,118,59] (y+1)=P++[41,123]++rpL [118,97,114,32,118,59] y++[118,97,114,32,118,59]:=by simp[rpL]
  by_cases h20:y=20
  ·subst h20
   have hx2:decide ((20:Int)<(l:Int))=true:=hx2
   by_cases h6:6<z
   ·have f1:F=17:=by rw[← hF];unfold fB;rw[if_pos h6]
    have e2:fB z 21=17:=by unfold fB;rw[if_pos h6]
    simp only[↓eB,seval,go_sem,yp_known7,yr_known7,yp_qFunc,yp_qGlobals,hx2,w5,hF,f1,hM]
    try simp only[impB,impN]
    repeat' (first|exact ck|with_reducible apply And.intro)
    all_goals try first|decide|omega
    refine⟨21,by omega,by omega,to_with [] ?_⟩
    simp only[↓eB,seval,go_sem,e1,e2]
   ·have f1:F=0:=by rw[← hF];unfold fB;rw[if_neg h6];rfl
    have e2:fB z 21=(pO z:Int)+124:=by unfold fB;rw[if_neg h6];rfl
    have w6:IntKind.i64.wrap (((M+1+1+1+1+1:Nat):Int)+4)=(pO z:Int)+124:=by
     rw[wrap_i64 (by omega) (by omega)];unfold pO;omega
    simp only[↓eB,seval,go_sem,yp_known7,yr_known7,yp_qFunc,yp_qGlobals,hx2,w5,hF,f1,hM,w6]
    try simp only[impB,impN]
    repeat' (first|exact ck|with_reducible apply And.intro)
    all_goals try first|decide|omega
    refine⟨21,by omega,by omega,to_with [] ?_⟩
    simp only[↓eB,seval,go_sem,e1,e2]
  ·have c6:((y:Int)==20)=false:=by rw[beq_eq_false_iff_ne];omega
   have e2:fB z (y+1)=F:=by rw[← hF];unfold fB;split;rfl;split<;>split<;>first|rfl|omega
   simp only[↓eB,seval,go_sem,yp_known7,yr_known7,yp_qFunc,yp_qGlobals,hx2,w5,hF,c6,hM]
   try simp only[impB,impN]
   repeat' (first|exact ck|with_reducible apply And.intro)
   all_goals try first|decide|omega
   refine⟨y+1,by omega,by omega,to_with [] ?_⟩
   simp only[↓eB,seval,go_sem,e1,e2]
 |false=>
 have hge2:=of_decide_eq_false hx2
 obtain rfl:y=l:=by omega
 simp only[↓eB,seval,go_sem,yp_known7,yr_known7,yp_qFunc,yp_qGlobals,hx2]
 try simp only[impB,impN]
 repeat' (first|exact ck|with_reducible apply And.intro)
 all_goals try first|decide|omega
 refine loop_ok (Y:=Nat) (fun x=>x≤n)
  (fun x=>⟨[(9,true,.one (.v (.int .i64 (z:Int)))),(10,true,.one (.v (.int .i64 (y:Int)))),(11,true,.one (.v (.int .i64 (n:Int)))),(12,true,.one (.v (.int .i64 (g:Int)))),(13,true,.one (.v (.string (bs (102::110::32::102::40::(P++[41,123]++rpL [118,97,114,32,118,59] y++rpL [120,61,49,59] x)))))),(14,true,.one (.v (.int .i64 (fC z y x)))),(17,true,.one (.v (.int .i64 (x:Int))))],[]⟩)
  (fun x=>n-x) 0 (Nat.zero_le _) ?_ ?_
 ·refine to_with [] ?_;simp only[↓eB,seval,go_sem,rpL,fC_0]
 rintro x hx0
 refine vc_ok [yp_known7,yp_qFunc,yp_qGlobals] [] _ _ _ ?_
 obtain⟨K,hK⟩:∃K,(P++[41,123]++rpL [118,97,114,32,118,59] y++rpL [120,61,49,59] x).length=K:=⟨_,rfl⟩
 have hK2:K=M+4*x:=by rw[← hK,List.length_append,hM,rpL_len];simp;omega
 obtain⟨G,hG⟩:∃G,fC z y x=G:=⟨_,rfl⟩
 cases hx3:decide ((x:Int)<(n:Int)) with
 |true=>
  have hlt:=of_decide_eq_true hx3
  have w5:IntKind.i64.wrap ((x:Int)+1)=((x+1:Nat):Int):=by rw[wrap_i64 (by omega) (by omega)];rfl
  have e1:P++[41,123]++rpL [118,97,114,32,118,59] y++rpL [120,61,49,59] (x+1)=P++[41,123]++rpL [118,97,114,32,118,59] y++rpL [120,61,49,59] x++[120,61,49,59]:=by simp[rpL]
  by_cases h20:x=200
  ·subst h20
   have hx3:decide ((200:Int)<(n:Int))=true:=hx3
   by_cases h6:6<z∨20<y
   ·have f1:(G==0)=false:=by
     rw[beq_eq_false_iff_ne,← hG];unfold fC
     split
     ·decide
     ·rw[if_pos (by omega)];omega
    have e2:fC z y 201=G:=by
     rw[← hG];unfold fC
     split
     ·rfl
     ·rw[if_pos (by omega),if_pos (by omega)]
    simp only[↓eB,seval,go_sem,yp_known7,yr_known7,yp_qFunc,yp_qGlobals,hx3,w5,hG,f1,hK]
    try simp only[impB,impN]
    repeat' (first|exact ck|with_reducible apply And.intro)
    all_goals try first|decide|omega
    refine⟨201,by omega,by omega,to_with [] ?_⟩
    simp only[↓eB,seval,go_sem,e1,e2]
   ·have f1:G=0:=by rw[← hG];unfold fC;rw[if_neg (by omega),if_neg (by omega)];rfl
    have e2:fC z y 201=((pO z+y*6:Nat):Int)+800:=by unfold fC;rw[if_neg (by omega),if_neg (by omega)];rfl
    have w6:((K+1+1+1+1+1:Nat):Int)=((pO z+y*6:Nat):Int)+800:=by unfold pO;omega
    simp only[↓eB,seval,go_sem,yp_known7,yr_known7,yp_qFunc,yp_qGlobals,hx3,w5,hG,f1,hK,w6]
    try simp only[impB,impN]
    repeat' (first|exact ck|with_reducible apply And.intro)
    all_goals try first|decide|omega
    refine⟨201,by omega,by omega,to_with [] ?_⟩
    simp only[↓eB,seval,go_sem,e1,e2]
  ·have c6:((x:Int)==200)=false:=by rw[beq_eq_false_iff_ne];omega
   have e2:fC z y (x+1)=G:=by rw[← hG];unfold fC;split;rfl;split;rfl;split<;>split<;>first|rfl|omega
   simp only[↓eB,seval,go_sem,yp_known7,yr_known7,yp_qFunc,yp_qGlobals,hx3,w5,hG,c6,hK]
   try simp only[impB,impN]
   repeat' (first|exact ck|with_reducible apply And.intro)
   all_goals try first|decide|omega
   refine⟨x+1,by omega,by omega,to_with [] ?_⟩
   simp only[↓eB,seval,go_sem,e1,e2]
 |false=>
 have hge3:=of_decide_eq_false hx3
 obtain rfl:x=n:=by omega
 simp only[↓eB,seval,go_sem,yp_known7,yr_known7,yp_qFunc,yp_qGlobals,hx3,← hPT]
 try simp only[impB,impN]
 repeat' (first|exact ck|with_reducible apply And.intro)
 all_goals try first|exact hs|decide|omega
 have hgs:=gc_small hg23
 unfold gcT at hgs
 have hzz:z≤8:=hp8
 refine loop_ok (Y:=Nat) (fun u=>u≤g)
  (fun u=>⟨[(9,true,.one (.v (.int .i64 (z:Int)))),(10,true,.one (.v (.int .i64 (y:Int)))),(11,true,.one (.v (.int .i64 (x:Int)))),(12,true,.one (.v (.int .i64 (g:Int)))),(14,true,.one (.v (.int .i64 G))),(18,true,.one (.p 18 0 0)),(19,true,.one (.v (.int .i64 (funF (pmT z y x)).2.1))),(20,true,.one (.v (.int .i64 (funF (pmT z y x)).2.2))),(21,true,.one (.v (.string (bs (rpL [99,101,108,108,32,99,59] u))))),(22,true,.one (.v (.int .i64 (fD u)))),(23,true,.one (.v (.int .i64 (u:Int))))],
   [(18,.vec 0 [.d (.v (.pointer (some ⟨27,0,none⟩))),.v (.bool false),.v (.bool false),.v (.bool false)] [(funF (pmT z y x)).1.c])]⟩)
  (fun u=>g-u) 0 (Nat.zero_le _) ?_ ?_
 ·refine to_with [] ?_;simp only[↓eB,seval,go_sem,rpL,hG,fD]
 rintro u hu
 refine vc_ok [yp_known7,yp_qFunc,yp_qGlobals] [] _ _ _ ?_
 obtain⟨L,hL⟩:∃L,(rpL [99,101,108,108,32,99,59] u).length=L:=⟨_,rfl⟩
 have hL2:L=7*u:=by rw[← hL,rpL_len];simp;omega
 cases hx4:decide ((u:Int)<(g:Int)) with
 |true=>
  have hlt:=of_decide_eq_true hx4
  have w5:IntKind.i64.wrap ((u:Int)+1)=((u+1:Nat):Int):=by rw[wrap_i64 (by omega) (by omega)];rfl
  have e1:rpL [99,101,108,108,32,99,59] (u+1)=rpL [99,101,108,108,32,99,59] u++[99,101,108,108,32,99,59]:=rfl
  by_cases h20:u=20
  ·subst h20
   have hx4:decide ((20:Int)<(g:Int))=true:=hx4
   have hL3:(rpL [99,101,108,108,32,99,59] 20).length=140:=by rw[rpL_len];rfl
   have e2:fD 21=145:=rfl
   simp only[↓eB,seval,go_sem,yp_known7,yr_known7,yp_qFunc,yp_qGlobals,hx4,w5,hL3]
   try simp only[impB,impN]
   repeat' (first|exact ck|with_reducible apply And.intro)
   all_goals try first|decide|omega
   refine⟨21,by omega,by omega,to_with [] ?_⟩
   simp only[↓eB,seval,go_sem,e1,e2]
  ·have c6:((u:Int)==20)=false:=by rw[beq_eq_false_iff_ne];omega
   have e2:fD (u+1)=fD u:=by unfold fD;split<;>split<;>first|rfl|omega
   simp only[↓eB,seval,go_sem,yp_known7,yr_known7,yp_qFunc,yp_qGlobals,hx4,w5,hL,c6]
   try simp only[impB,impN]
   repeat' (first|exact ck|with_reducible apply And.intro)
   all_goals try first|decide|omega
   refine⟨u+1,by omega,by omega,to_with [] ?_⟩
   simp only[↓eB,seval,go_sem,e1,e2]
 |false=>
 have hge4:=of_decide_eq_false hx4
 obtain rfl:u=g:=by omega
 have key:((funF (pmT z y x)).2.2=53∧(funF (pmT z y x)).2.1=G∧0<G)∨((funF (pmT z y x)).2.2=0∧G=0∧(funF (pmT z y x)).1.ps.length=z∧(funF (pmT z y x)).1.ls.length=y∧(funF (pmT z y x)).1.body.length=x):=by
  by_cases k1:6<z
  ·refine .inl ?_
   rw[pm_badP k1 hp8 hl23 hn204,← hG]
   unfold fC
   rw[if_pos k1]
   exact⟨rfl,rfl,by decide⟩
  by_cases k2:20<y
  ·refine .inl ?_
   rw[pm_badL (by omega) k2 hl23 hn204,← hG]
   unfold fC
   rw[if_neg k1,if_pos k2]
   exact⟨rfl,rfl,by omega⟩
  by_cases k3:200<x
  ·refine .inl ?_
   rw[pm_badS (by omega) (by omega) k3 hn204,← hG]
   unfold fC
   rw[if_neg k1,if_neg k2,if_pos k3]
   exact⟨rfl,rfl,by omega⟩
  refine .inr ?_
  rw[pm_good (by omega) (by omega) (by omega),← hG]
  unfold fC
  rw[if_neg k1,if_neg k2,if_neg k3]
  exact⟨rfl,rfl,List.length_replicate,List.length_replicate,vB_r _ _⟩
 rcases key with⟨r1,r2,r3⟩|⟨r1,r2,r3,r4,r5⟩
 ·have d1:decide ((0:Int)<G)=true:=decide_eq_true r3
  have d2:(G==0)=false:=by rw[beq_eq_false_iff_ne];omega
  by_cases k4:20<u
  ·obtain⟨t1,t2⟩:=gc_bad hg23 k4
   unfold gcT at t1 t2
   have t3:fD u=145:=by unfold fD;rw[if_pos k4]
   simp only[↓eB,seval,go_sem,yp_known7,yr_known7,yp_qFunc,yp_qGlobals,hx4,r1,r2,d1,d2,t1,t2,t3,bne_self_eq_false,beq_self_eq_true]
   try simp only[impB,impN]
   repeat' first|exact ck|with_reducible apply And.intro|intro _
   all_goals first|exact hgs|(rename_i h;first|exact oI h|exact nah h)|(rename_i _ h _ g;exact sL h g)|decide|omega|(refine ret_with [] ?_;simp only[↓eB,seval,go_sem,bne,yr_ParseMany])
  ·obtain⟨t1,t2⟩:=gc_good (g:=u) (by omega)
   unfold gcT at t1 t2
   have t3:fD u=0:=by unfold fD;rw[if_neg k4]
   have t4:((gloQ (rpL [99,101,108,108,32,99,59] u)).1.c.length:Int)=(u:Int):=by rw[t2]
   simp only[↓eB,seval,go_sem,yp_known7,yr_known7,yp_qFunc,yp_qGlobals,hx4,r1,r2,d1,d2,t1,t3,t4,bne_self_eq_false,beq_self_eq_true]
   try simp only[impB,impN]
   repeat' first|exact ck|with_reducible apply And.intro|intro _
   all_goals first|exact hgs|(rename_i h;first|exact oI h|exact nah h)|(rename_i _ h _ g;exact sL h g)|decide|omega|(refine ret_with [] ?_;simp only[↓eB,seval,go_sem,bne,yr_ParseMany])
 ·subst r2
  by_cases k4:20<u
  ·obtain⟨t1,t2⟩:=gc_bad hg23 k4
   unfold gcT at t1 t2
   have t3:fD u=145:=by unfold fD;rw[if_pos k4]
   simp only[↓eB,seval,go_sem,yp_known7,yr_known7,yp_qFunc,yp_qGlobals,hx4,r1,r3,r4,r5,t1,t2,t3,bne_self_eq_false,beq_self_eq_true]
   try simp only[impB,impN]
   repeat' first|exact ck|with_reducible apply And.intro|intro _
   all_goals first|exact hgs|(rename_i h;first|exact oI h|exact nah h)|(rename_i _ h _ g;exact sL h g)|decide|omega|(refine ret_with [] ?_;simp only[↓eB,seval,go_sem,bne,yr_ParseMany])
  ·obtain⟨t1,t2⟩:=gc_good (g:=u) (by omega)
   unfold gcT at t1 t2
   have t3:fD u=0:=by unfold fD;rw[if_neg k4]
   have t4:((gloQ (rpL [99,101,108,108,32,99,59] u)).1.c.length:Int)=(u:Int):=by rw[t2]
   simp only[↓eB,seval,go_sem,yp_known7,yr_known7,yp_qFunc,yp_qGlobals,hx4,r1,r3,r4,r5,t1,t3,t4,bne_self_eq_false,beq_self_eq_true]
   try simp only[impB,impN]
   repeat' first|exact ck|with_reducible apply And.intro|intro _
   all_goals first|exact hgs|(rename_i h;first|exact oI h|exact nah h)|(rename_i _ h _ g;exact sL h g)|decide|omega|(refine ret_with [] ?_;simp only[↓eB,seval,go_sem,bne,yr_ParseMany])
end Go.Proofs.YtodppgiaimihfabDoor
