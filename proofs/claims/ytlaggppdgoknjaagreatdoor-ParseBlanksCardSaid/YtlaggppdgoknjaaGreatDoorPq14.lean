/- The program's parser: globals, walked. No conditions but those in each statement. -/
import Derived.Test.YtlaggppdgoknjaaGreatDoorPq12
import Derived.Test.YtlaggppdgoknjaaGreatDoorSy38
set_option linter.unusedVariables false
set_option linter.unusedSimpArgs false
namespace Go.Proofs.YtlaggppdgoknjaaGreatDoor
open Go Go.Sy Go.RowKit
structure Gy where
 s:List UInt8
 n:Int
structure Gl where
 c:List (List UInt8)
 a:List Gy
def Gy.c (x:Gy):List C:=[.v (.string (bs x.s)),.v (.int .i64 x.n)]
def Gy.r (x:Gy):List D:=[.v (.string (bs x.s)),.v (.int .i64 x.n)]
def cSd (x:List UInt8):List D:=[.v (.string (bs x))]
def zSq:List C:=[.v (.string (bs []))]
def zSqD:List D:=[.v (.string (bs []))]
def zGy:List C:=[.v (.string (bs [])),.v (.int .i64 0)]
def zGyD:List D:=[.v (.string (bs [])),.v (.int .i64 0)]
theorem zSq_t:zT zSq=none:=rfl
theorem zGy_t:zT zGy=none:=rfl
attribute [go_sem] zSq_t zGy_t
def Gl.c' (g:Gl):List C:=[.ov zSq (g.c.map cS),.ov zGy (g.a.map Gy.c)]
def zGl:List C:=[.v (.slice none 0 0),.v (.slice none 0 0)]
theorem zGl_t:zT zGl=none:=rfl
attribute [go_sem] zGl_t
theorem rowsQ:RowsD cS cSd 1:=by
 refine⟨fun a c hc=>?_,fun a c hc=>?_,fun a=>rfl,fun a=>rfl⟩
 ·simp only[cS,List.mem_singleton]at hc;subst hc;rfl
 ·simp only[cS,List.mem_singleton]at hc;subst hc;rfl
theorem rowsY:RowsD Gy.c Gy.r 2:=by
 refine⟨fun a c hc=>?_,fun a c hc=>?_,fun a=>rfl,fun a=>rfl⟩
 ·simp only[Gy.c,List.mem_cons,List.not_mem_nil,or_false]at hc;rcases hc with rfl|rfl<;>rfl
 ·simp only[Gy.c,List.mem_cons,List.not_mem_nil,or_false]at hc;rcases hc with rfl|rfl<;>rfl
theorem cS_inj (a b:List UInt8) (h:cS a=cS b):a=b:=by
 simp only[cS,List.cons.injEq,C.v.injEq,Value.string.injEq,and_true]at h
 exact bs_inj h
theorem gy_inj (a b:Gy) (h:a.c=b.c):a=b:=by
 obtain⟨s,n⟩:=a
 obtain⟨s',n'⟩:=b
 simp only[Gy.c,List.cons.injEq,C.v.injEq,Value.string.injEq,Value.int.injEq,true_and,and_true]at h
 rw[bs_inj h.1,h.2]
theorem gl_inj (a b:Gl) (h:a.c'=b.c'):a=b:=by
 obtain⟨c,x⟩:=a
 obtain⟨c2,x2⟩:=b
 simp only[Gl.c',List.cons.injEq,C.ov.injEq,true_and,and_true]at h
 rw[map_inj cS_inj h.1,map_inj gy_inj h.2]
theorem gl_nm (g:Gl):∀c∈g.c',c.names=[]:=by
 intro c hc
 simp only[Gl.c',List.mem_cons,List.not_mem_nil,or_false]at hc
 rcases hc with rfl|rfl<;>rfl
noncomputable def mGl:RowM Gl:=rowMOf zGl Gl.c' gl_nm
theorem mGl_z:mGl.z=zGl:=rfl
theorem mGl_e:mGl.e=Gl.c':=rfl
theorem mGl_d (c:List (List UInt8)) (a:List Gy):mGl.d [.ov zSq (c.map cS),.ov zGy (a.map Gy.c)]=some ⟨c,a⟩:=rowMOf_d gl_inj ⟨c,a⟩
theorem q_all (l:List (List UInt8)):((l.map cS).all fun r=>r.all fun c=>c.names.isEmpty)=true:=rowsQ.cl
theorem y_all (l:List Gy):((l.map Gy.c).all fun r=>r.all fun c=>c.names.isEmpty)=true:=rowsY.cl
abbrev tCell:List UInt8:=[99,101,108,108]
abbrev tArr:List UInt8:=[97,114,114,97,121]
def lenP (p:Pr):Pr:=if decide (1048576<numW (tk p).t 0)=true then failP 53 p else adv p
theorem len_ps (p:Pr):Ps p (lenP p):=by
 intro h
 unfold lenP
 split
 ·unfold failP;rw[if_neg (by simpa using h)];exact⟨rfl,rfl⟩
 ·exact⟨rfl,rfl⟩
def numB (p:Pr):Bool:=kdB 1 p&&!(ahT 0 p==[48])
def gA2 (n:Int) (p:Pr):Pr:=decP n 20 (wanP tArr p)
def gA4 (n:Int) (p:Pr):Pr:=nedP (numB (wanP [91] (gA2 n p))) (wanP [91] (gA2 n p))
def glP (n:Int) (p:Pr):Pr:=if isT tCell p=true then wanP [59] (decP n 20 (adv p)) else wanP [59] (wanP [93] (lenP (gA4 n p)))
def glG (g:Gl) (p:Pr):Gl:=if isT tCell p=true then { g with c:=g.c++[namS (adv p)] } else { g with a:=g.a++[⟨namS (wanP tArr p),numW (tk (gA4 ((g.c.length:Int)+(g.a.length:Int)) p)).t 0⟩] }
def Gl.n (g:Gl):Int:=(g.c.length:Int)+(g.a.length:Int)
theorem nm_q3 (p:Pr) (b:Bool) (g:Gl):∀q,some q∈(some p.w::offA b [((zGl,[g.c']):MV)])→∀r∈q.2,∀c∈r,c.names=[]:=by
 intro q hq r' hr' c hc
 cases b with
 |true=>
  simp only[offA_t,offA_n,List.mem_cons,List.not_mem_nil,or_false,Option.some.injEq,reduceCtorEq]at hq
  rcases hq with rfl|rfl
  ·exact memw_nm p _ (List.mem_singleton.2 rfl) r' hr' c hc
  ·simp only[List.map_cons,List.map_nil,List.mem_singleton,Gl.c']at hr';subst hr'
   simp only[List.mem_cons,List.not_mem_nil,or_false]at hc
   rcases hc with rfl|rfl<;>rfl
 |false=>
  simp only[offA_f,offA_n,List.mem_cons,List.not_mem_nil,or_false,Option.some.injEq]at hq
  rcases hq with rfl|rfl
  ·exact memw_nm p _ (List.mem_singleton.2 rfl) r' hr' c hc
  ·simp only[List.mem_singleton]at hr';subst hr';exact gl_nm g c hc
theorem ned_ps (q:Pr) (b:Bool):Ps q (nedP b q):=by
 intro h
 cases b with
 |true=>exact⟨rfl,rfl⟩
 |false=>
  have:nedP false q=q:=by show failP 51 q=q;unfold failP;rw[if_neg (by simpa using h)]
  rw[this];exact⟨rfl,rfl⟩
theorem ned_nx {b:Bool} {q:Pr} (h:okP q):Nx q (nedP b q):=by
 cases b with
 |true=>exact .refl h
 |false=>exact fail_nx 51 h
abbrev yc_qis0 (p:Pr) (t:List UInt8):Prop:=okI p
abbrev yr_qis0 (p:Pr) (t:List UInt8):Value:=Value.bool (ahT 0 p==t)
attribute [local go_sem] Gl.c' Gy.c Pr.q Pr.s Tok.r cPt_d cPt_e mGl_d mGl_e mGl_z mPq_d mPq_d' mPq_e mPq_z ned_t pnOf_f pnOf_t pr_eta ptR rPq_d rPq_d' rPq_e rPq_z tkq_at wkR_self yb_qdeclared yb_qexpect yb_qfail yb_qname yb_qneed yb_qopen yp_qaccept yp_qahead yp_qclose yp_qdeclared yp_qexpect yp_qfail yp_qis yp_qisKind yp_qisName yp_qname yp_qneed yp_qopen yp_qvalue yr_qahead yr_qdeclared yr_qis yr_qis0 yr_qisKind yr_qisName yr_qname yr_qvalue yv_qdeclared yv_qexpect yv_qfail yv_qname yv_qneed yv_qopen zGy zSq zTk
theorem y_qis0:CallsR Tryz.prog 47 (ahS (cPt rPq) (ahS (cStr.H) ah0)) (fun p:(Pr×(List UInt8×Unit))=>yc_qis0 p.1 p.2.1) (fun p:(Pr×(List UInt8×Unit))=>ofV (yr_qis0 p.1 p.2.1)):=by
 rintro ⟨p,t,_u⟩ w fz xs hc hfz hl hx
 refine calls_toRL Tryz.func47 rfl w fz [yp_qahead] [] (ahS (cPt rPq) (ahS (cStr.H) ah0)) (fun p:(Pr×(List UInt8×Unit))=>ofV (yr_qis0 p.1 p.2.1)) _ xs hfz hl hx (Nat.le_of_ble_eq_true rfl) ?_
 clear hx hl hfz xs
 simp only[Tryz.f47]
 simp only[↓eB,seval,go_sem]
 try simp only[impB,impN]
 repeat' first|exact ck|with_reducible apply And.intro|intro _
 all_goals try simp only[bne,Bool.not_eq_true',Bool.not_eq_false',Bool.not_not] at*
 all_goals first
  |(exact hc;done)
  |(refine ret_with [] ?_;simp only[↓eB,seval,go_sem,bne];first|done|(simp only[*,if_true,if_false,Bool.false_eq_true,Bool.true_or,Bool.or_true,Bool.false_or,Bool.or_false,Bool.and_false,Bool.false_and,Bool.true_and,Bool.and_true,Bool.not_true,Bool.not_false,Bool.or_self,Bool.and_self,Int.reduceEq,Int.reduceNeg,Nat.reduceEqDiff,reduceCtorEq,dec_T,dec_F,leC_same,leC_nil,and_self,↓reduceIte];done)|(simp_all;done))
  |omega
  |(simp only[decide_eq_true_eq,decide_eq_false_iff_not]at *;omega)
  |(simp_all;done)
  |(simp_all;omega)
  |trace_state
theorem yh_qis0:∀p:(Pr×(List UInt8×Unit)),okV ((fun p:(Pr×(List UInt8×Unit))=>yr_qis0 p.1 p.2.1) p)=true:=by intro p;rfl
noncomputable def yp_qis0 {X:Ctx} {w0:World}:Sy.Spec Tryz.prog X w0:=specR 47 Tryz.call47 (ahS (cPt rPq) (ahS (cStr.H) ah0)) (fun p:(Pr×(List UInt8×Unit))=>yc_qis0 p.1 p.2.1) (fun p:(Pr×(List UInt8×Unit))=>yr_qis0 p.1 p.2.1) yh_qis0 y_qis0
abbrev yc_qglobal (p:Pr) (g:Gl):Prop:=okQ p∧g.c.length≤5000∧g.a.length≤5000
abbrev yb_qglobal (p:Pr) (g:Gl):Bool:=(glP g.n p).b
abbrev yr_qglobal (p:Pr) (g:Gl):SV:=.tup []
abbrev yv_qglobal (p:Pr) (g:Gl):MV:=(glP g.n p).w
abbrev ys_qglobal (p:Pr) (g:Gl):List MV:=[(zGl,[(glG g p).c'])]
noncomputable abbrev ya_qglobal:ArgM ((Pr)×(Gl)×Unit):=(amP (mPq) (amP (mGl) am0))
abbrev yq_qglobal:Prop:=CallsMP Tryz.prog 36 ((ya_qglobal).args 0) (ya_qglobal).mem (fun p:(Pr)×(Gl)×Unit=>yc_qglobal p.1 p.2.1) (fun p:(Pr)×(Gl)×Unit=>yb_qglobal p.1 p.2.1) (fun p:(Pr)×(Gl)×Unit=>yr_qglobal p.1 p.2.1) (fun p:(Pr)×(Gl)×Unit=>some (yv_qglobal p.1 p.2.1)::offA (yb_qglobal p.1 p.2.1) (ys_qglobal p.1 p.2.1))
theorem yl_qglobal:∀p,(fun p:(Pr)×(Gl)×Unit=>yc_qglobal p.1 p.2.1) p→((fun p:(Pr)×(Gl)×Unit=>some (yv_qglobal p.1 p.2.1)::offA (yb_qglobal p.1 p.2.1) (ys_qglobal p.1 p.2.1)) p).length=((ya_qglobal).mem p).length:=by intro p _;rfl
theorem yo_qglobal:∀p,(fun p:(Pr)×(Gl)×Unit=>yc_qglobal p.1 p.2.1) p→outV ((fun p:(Pr)×(Gl)×Unit=>some (yv_qglobal p.1 p.2.1)::offA (yb_qglobal p.1 p.2.1) (ys_qglobal p.1 p.2.1)) p).length ((fun p:(Pr)×(Gl)×Unit=>yr_qglobal p.1 p.2.1) p)=true:=by intro p _;first|rfl|exact ex_out _ _|exact cd_out _ _|(simp[outV,outC,ex_out,cd_out];done)
theorem yn_qglobal:∀p,(fun p:(Pr)×(Gl)×Unit=>yc_qglobal p.1 p.2.1) p→∀q,some q∈(fun p:(Pr)×(Gl)×Unit=>some (yv_qglobal p.1 p.2.1)::offA (yb_qglobal p.1 p.2.1) (ys_qglobal p.1 p.2.1)) p→∀r∈q.2,∀c∈r,c.names=[]:=by intro p _;exact nm_q3 _ _ _
set_option maxRecDepth 20000 in set_option maxHeartbeats 16000000 in
theorem y_qglobal:yq_qglobal:=by
 rintro ⟨p,g,_u⟩ w M I lab fz xs hc hA hl hx
 refine calls_toMA Tryz.func36 rfl ((ya_qglobal).mem ⟨p,g,_u⟩) w M I lab fz (yb_qglobal p g) (yv_qglobal p g) (ys_qglobal p g) [yp_qaccept,yp_qexpect,yp_qdeclared,yp_qisKind,yp_qis0,yp_qneed,yp_qvalue,yp_qfail] [] ((ya_qglobal).args 0 ⟨p,g,_u⟩) (yr_qglobal p g) xs hA hl hx (fun v hv k hk=>by have:=(ya_qglobal).an 0 ⟨p,g,_u⟩ v hv k hk;omega) (Nat.le_of_ble_eq_true rfl) rfl (yn_qglobal ⟨p,g,_u⟩ hc _ (List.mem_cons_self ..)) ?_
 clear hx hl hA xs
 simp only[Tryz.f36]
 obtain⟨hq,hc1,hc2⟩:=hc
 obtain⟨cs,as'⟩:=g
 dsimp only at hq hc1 hc2
 have hn:IntKind.i64.wrap ((cs.length:Int)+(as'.length:Int))=(cs.length:Int)+(as'.length:Int):=wrap_i64 (by omega) (by omega)
 have hgn:(⟨cs,as'⟩:Gl).n=(cs.length:Int)+(as'.length:Int):=rfl
 have l1:((cs.map cS).length:Int)=(cs.length:Int):=by simp
 have l2:((as'.map Gy.c).length:Int)=(as'.length:Int):=by simp
 generalize hN:(cs.length:Int)+(as'.length:Int)=N at*
 have sC:sgT tCell=true:=rfl
 have sA:sgT tArr=true:=rfl
 have s59:sgT [59]=true:=rfl
 have s91:sgT [91]=true:=rfl
 have s93:sgT [93]=true:=rfl
 cases i0:isT tCell p with
 |true=>
  have tt:=takP_t i0
  have qa:=isT_okQ hq i0
  have n1:=dec_nx (n:=N) (most:=20) qa.ok
  have n2:=wan_nx (t:=[59]) n1.ok
  have hr:glP N p=wanP [59] (decP N 20 (adv p)):=by unfold glP;rw[i0];rfl
  have hg:glG ⟨cs,as'⟩ p=⟨cs++[namS (adv p)],as'⟩:=by unfold glG;rw[i0];rfl
  cases e1:((decP N 20 (adv p)).e==0) with
  |false=>
   obtain⟨o1,o2,g1,g2⟩:=ps_w n2.ps e1
   simp only[↓eB,seval,go_sem,yp_qis0,adv_fold,cS,yb_qglobal,yv_qglobal,ys_qglobal,l1,l2,hN,hn,i0,tt,hgn,hr,o1,o2,g1,g2]
   try simp only[impB,impN]
   repeat' first|exact ck|with_reducible apply And.intro|intro _
   all_goals first|exact hq|exact sC|exact qa|(rename_i h;first|exact oI h|exact nah h)|(rename_i _ h _ g;exact sL h g)|decide|omega|(refine ret_with [] ?_;simp only[↓eB,seval,go_sem,bne,yr_qglobal,yb_qglobal,yv_qglobal,e_RESMP,hgn,hr,o1,o2,g1,g2])
  |true=>
  have q1:=qa.nx n1 e1
  obtain⟨a1,a2⟩:=go_w e1
  cases e2:((wanP [59] (decP N 20 (adv p))).e==0) with
  |false=>
   obtain⟨o1,o2,g1,g2⟩:=ps_w (Ps.refl (wanP [59] (decP N 20 (adv p)))) e2
   simp only[↓eB,seval,go_sem,yp_qis0,adv_fold,cS,yb_qglobal,yv_qglobal,ys_qglobal,l1,l2,hN,hn,i0,tt,hgn,hr,a1,a2,o1,o2]
   try simp only[impB,impN]
   repeat' first|exact ck|with_reducible apply And.intro|intro _
   all_goals first|exact hq|exact sC|exact qa|exact q1|exact s59|(rename_i h;first|exact oI h|exact nah h)|(rename_i _ h _ g;exact sL h g)|decide|omega|(refine ret_with [] ?_;simp only[↓eB,seval,go_sem,bne,yr_qglobal,yb_qglobal,yv_qglobal,e_RESMP,hgn,hr,o1,o2])
  |true=>
   obtain⟨g1,g2⟩:=go_w e2
   simp only[↓eB,seval,go_sem,yp_qis0,adv_fold,cS,yb_qglobal,yv_qglobal,ys_qglobal,l1,l2,hN,hn,i0,tt,hgn,hr,hg,a1,a2,g1,g2]
   try simp only[impB,impN]
   repeat' first|exact ck|with_reducible apply And.intro|intro _
   all_goals first|exact hq|exact sC|exact qa|exact q1|exact s59|(rename_i h;first|exact oI h|exact nah h)|(rename_i _ h _ g;exact sL h g)|decide|omega|(refine ret_with [.fold 1 0 0] ?_;simp only[↓eB,seval,go_sem,bne,yr_qglobal,yb_qglobal,yv_qglobal,e_RESMP,hgn,hr,hg,g1,g2,Pr.x,cS,zGl,List.map_append,List.all_append,q_all,y_all,List.isEmpty_nil])
 |false=>
 have tt:=takP_f i0
 have hr:glP N p=wanP [59] (wanP [93] (lenP (gA4 N p))):=by unfold glP;rw[i0];rfl
 have hg:glG ⟨cs,as'⟩ p=⟨cs,as'++[⟨namS (wanP tArr p),numW (tk (gA4 N p)).t 0⟩]⟩:=by unfold glG;rw[i0,← hN];rfl
 unfold gA4 gA2 at hr hg
 have n1:=wan_nx (t:=tArr) hq.ok
 have n2:=dec_nx (n:=N) (most:=20) n1.ok
 have n3:=wan_nx (t:=[91]) n2.ok
 have kL:∀q,Ps q (wanP [59] (wanP [93] (lenP q))):=fun q h=>by
  have h1:=len_ps q h
  have h2:Ps (lenP q) (wanP [93] (lenP q)):=by
   intro h3;unfold wanP
   split
   ·rename_i h4;exact absurd (isT_e h4).1 h3
   ·unfold failP;rw[if_neg (by simpa using h3)];exact⟨rfl,rfl⟩
  have h5:Ps (wanP [93] (lenP q)) (wanP [59] (wanP [93] (lenP q))):=by
   intro h3
   show (wanP [59] (wanP [93] (lenP q))).e=_∧(wanP [59] (wanP [93] (lenP q))).at'=_
   generalize wanP [93] (lenP q)=r at h3
   unfold wanP
   split
   ·rename_i h4;exact absurd (isT_e h4).1 h3
   ·unfold failP;rw[if_neg (by simpa using h3)];exact⟨rfl,rfl⟩
  exact((len_ps q).trans (h2.trans h5)) h
 generalize hX1:wanP tArr p=x1 at*
 cases e1:(x1.e==0) with
 |false=>
  obtain⟨o1,o2,g1,g2⟩:=ps_w ((n2.trans n3).ps.trans ((ned_ps _ _).trans (kL _))) e1
  rw[← hr]at o1 o2
  simp only[↓eB,seval,go_sem,yp_qis0,adv_fold,cS,yb_qglobal,yv_qglobal,ys_qglobal,l1,l2,hN,hn,i0,tt,hX1,hgn,o1,o2,g1,g2]
  try simp only[impB,impN]
  repeat' first|exact ck|with_reducible apply And.intro|intro _
  all_goals first|exact hq|exact sC|exact sA|(rename_i h;first|exact oI h|exact nah h)|(rename_i _ h _ g;exact sL h g)|decide|omega|(refine ret_with [] ?_;simp only[↓eB,seval,go_sem,bne,yr_qglobal,yb_qglobal,yv_qglobal,e_RESMP,hgn,o1,o2,g1,g2])
 |true=>
 have q1:=hq.nx n1 e1
 obtain⟨a1,a2⟩:=go_w e1
 generalize hX2:decP N 20 x1=x2 at*
 cases e2:(x2.e==0) with
 |false=>
  obtain⟨o1,o2,g1,g2⟩:=ps_w (n3.ps.trans ((ned_ps _ _).trans (kL _))) e2
  rw[← hr]at o1 o2
  simp only[↓eB,seval,go_sem,yp_qis0,adv_fold,cS,yb_qglobal,yv_qglobal,ys_qglobal,l1,l2,hN,hn,i0,tt,hX1,hX2,hgn,a1,a2,o1,o2,g1,g2]
  try simp only[impB,impN]
  repeat' first|exact ck|with_reducible apply And.intro|intro _
  all_goals first|exact hq|exact sC|exact sA|exact q1|(rename_i h;first|exact oI h|exact nah h)|(rename_i _ h _ g;exact sL h g)|decide|omega|(refine ret_with [] ?_;simp only[↓eB,seval,go_sem,bne,yr_qglobal,yb_qglobal,yv_qglobal,e_RESMP,hgn,o1,o2,g1,g2])
 |true=>
 have q2:=q1.nx n2 e2
 obtain⟨b1,b2⟩:=go_w e2
 generalize hX3:wanP [91] x2=x3 at*
 cases e3:(x3.e==0) with
 |false=>
  obtain⟨o1,o2,g1,g2⟩:=ps_w ((ned_ps _ _).trans (kL _)) e3
  rw[← hr]at o1 o2
  simp only[↓eB,seval,go_sem,yp_qis0,adv_fold,cS,yb_qglobal,yv_qglobal,ys_qglobal,l1,l2,hN,hn,i0,tt,hX1,hX2,hX3,hgn,a1,a2,b1,b2,o1,o2,g1,g2]
  try simp only[impB,impN]
  repeat' first|exact ck|with_reducible apply And.intro|intro _
  all_goals first|exact hq|exact sC|exact sA|exact q1|exact q2|exact s91|(rename_i h;first|exact oI h|exact nah h)|(rename_i _ h _ g;exact sL h g)|decide|omega|(refine ret_with [] ?_;simp only[↓eB,seval,go_sem,bne,yr_qglobal,yb_qglobal,yv_qglobal,e_RESMP,hgn,o1,o2,g1,g2])
 |true=>
 have q3:=q2.nx n3 e3
 have hI:=q3.i
 obtain⟨c1,c2⟩:=go_w e3
 cases hk:kdB 1 x3 with
 |false=>
  have hB:numB x3=false:=by unfold numB;rw[hk];rfl
  rw[hB,ned_f]at hr
  have e4:((failP 51 x3).e==0)=false:=by simpa using failP_ne (c:=51) (by decide) x3
  obtain⟨o1,o2,g1,g2⟩:=ps_w (kL (failP 51 x3)) e4
  rw[← hr]at o1 o2
  simp only[↓eB,seval,go_sem,yp_qis0,adv_fold,cS,yb_qglobal,yv_qglobal,ys_qglobal,l1,l2,hN,hn,i0,tt,hX1,hX2,hX3,hgn,a1,a2,b1,b2,c1,c2,hk,ned_f,o1,o2,g1,g2]
  try simp only[impB,impN]
  repeat' first|exact ck|with_reducible apply And.intro|intro _
  all_goals first|exact hI|exact hq|exact sC|exact sA|exact q1|exact q2|exact s91|exact q3|(rename_i h;first|exact oI h|exact nah h)|(rename_i _ h _ g;exact sL h g)|decide|omega|(refine ret_with [] ?_;simp only[↓eB,seval,go_sem,bne,yr_qglobal,yb_qglobal,yv_qglobal,e_RESMP,hgn,o1,o2,g1,g2])
 |true=>
 cases hz:(ahT 0 x3==[48]) with
 |true=>
  have hB:numB x3=false:=by unfold numB;rw[hk,hz];rfl
  rw[hB,ned_f]at hr
  have e4:((failP 51 x3).e==0)=false:=by simpa using failP_ne (c:=51) (by decide) x3
  obtain⟨o1,o2,g1,g2⟩:=ps_w (kL (failP 51 x3)) e4
  rw[← hr]at o1 o2
  simp only[↓eB,seval,go_sem,yp_qis0,adv_fold,cS,yb_qglobal,yv_qglobal,ys_qglobal,l1,l2,hN,hn,i0,tt,hX1,hX2,hX3,hgn,a1,a2,b1,b2,c1,c2,hk,hz,ned_f,o1,o2,g1,g2]
  try simp only[impB,impN]
  repeat' first|exact ck|with_reducible apply And.intro|intro _
  all_goals first|exact hI|exact hq|exact sC|exact sA|exact q1|exact q2|exact s91|exact q3|(rename_i h;first|exact oI h|exact nah h)|(rename_i _ h _ g;exact sL h g)|decide|omega|(refine ret_with [] ?_;simp only[↓eB,seval,go_sem,bne,yr_qglobal,yb_qglobal,yv_qglobal,e_RESMP,hgn,o1,o2,g1,g2])
 |false=>
 have hB:numB x3=true:=by unfold numB;rw[hk,hz];rfl
 rw[hB,ned_t]at hr hg
 obtain⟨k1,k2,k3,k4,k5⟩:=kd_num q3 hk
 have qA:=adv_okQ q3 k4
 cases hm:decide (1048576<numW (tk x3).t 0) with
 |true=>
  have hL:lenP x3=failP 53 x3:=by unfold lenP;rw[hm];rfl
  rw[hL]at hr
  have e4:((failP 53 x3).e==0)=false:=by simpa using failP_ne (c:=53) (by decide) x3
  have kk:=kL x3
  rw[hL]at kk
  have kf:Ps (failP 53 x3) (wanP [59] (wanP [93] (failP 53 x3))):=by
   have m1:=(fail_nx 53 q3.ok)
   have m2:=wan_nx (t:=[93]) m1.ok
   exact(m2.trans (wan_nx m2.ok)).ps
  obtain⟨o1,o2,g1,g2⟩:=ps_w kf e4
  rw[← hr]at o1 o2
  have h53:(53:Int)≠0:=by decide
  simp only[↓eB,seval,go_sem,yp_qis0,adv_fold,cS,yb_qglobal,yv_qglobal,ys_qglobal,l1,l2,hN,hn,i0,tt,hX1,hX2,hX3,hgn,a1,a2,b1,b2,c1,c2,hk,hz,hm,o1,o2,g1,g2]
  try simp only[impB,impN]
  repeat' first|exact ck|with_reducible apply And.intro|intro _
  all_goals first|exact hI|exact h53|exact hq|exact sC|exact sA|exact q1|exact q2|exact s91|exact q3|exact hk|(rename_i h;first|exact oI h|exact nah h)|(rename_i _ h _ g;exact sL h g)|decide|omega|(refine ret_with [] ?_;simp only[↓eB,seval,go_sem,bne,yr_qglobal,yb_qglobal,yv_qglobal,e_RESMP,hgn,o1,o2,g1,g2])
 |false=>
 have hL:lenP x3=adv x3:=by unfold lenP;rw[hm];rfl
 rw[hL]at hr
 have n5:=wan_nx (t:=[93]) qA.ok
 have n6:=wan_nx (t:=[59]) n5.ok
 cases e5:((wanP [93] (adv x3)).e==0) with
 |false=>
  obtain⟨o1,o2,g1,g2⟩:=ps_w n6.ps e5
  rw[← hr]at o1 o2
  simp only[↓eB,seval,go_sem,yp_qis0,adv_fold,cS,yb_qglobal,yv_qglobal,ys_qglobal,l1,l2,hN,hn,i0,tt,hX1,hX2,hX3,hgn,a1,a2,b1,b2,c1,c2,hk,hz,hm,o1,o2,g1,g2]
  try simp only[impB,impN]
  repeat' first|exact ck|with_reducible apply And.intro|intro _
  all_goals first|exact hI|exact hq|exact sC|exact sA|exact q1|exact q2|exact s91|exact q3|exact hk|exact qA|exact s93|(rename_i h;first|exact oI h|exact nah h)|(rename_i _ h _ g;exact sL h g)|decide|omega|(refine ret_with [] ?_;simp only[↓eB,seval,go_sem,bne,yr_qglobal,yb_qglobal,yv_qglobal,e_RESMP,hgn,o1,o2,g1,g2])
 |true=>
 have q5:=qA.nx n5 e5
 obtain⟨d1,d2⟩:=go_w e5
 cases e6:((wanP [59] (wanP [93] (adv x3))).e==0) with
 |false=>
  obtain⟨o1,o2,g1,g2⟩:=ps_w (Ps.refl (wanP [59] (wanP [93] (adv x3)))) e6
  simp only[↓eB,seval,go_sem,yp_qis0,adv_fold,cS,yb_qglobal,yv_qglobal,ys_qglobal,l1,l2,hN,hn,i0,tt,hX1,hX2,hX3,hgn,hr,a1,a2,b1,b2,c1,c2,hk,hz,hm,d1,d2,g1,g2]
  try simp only[impB,impN]
  repeat' first|exact ck|with_reducible apply And.intro|intro _
  all_goals first|exact hI|exact hq|exact sC|exact sA|exact q1|exact q2|exact s91|exact q3|exact hk|exact qA|exact s93|exact q5|exact s59|(rename_i h;first|exact oI h|exact nah h)|(rename_i _ h _ g;exact sL h g)|decide|omega|(refine ret_with [] ?_;simp only[↓eB,seval,go_sem,bne,yr_qglobal,yb_qglobal,yv_qglobal,e_RESMP,hgn,hr,g1,g2])
 |true=>
  obtain⟨g1,g2⟩:=go_w e6
  simp only[↓eB,seval,go_sem,yp_qis0,adv_fold,cS,yb_qglobal,yv_qglobal,ys_qglobal,l1,l2,hN,hn,i0,tt,hX1,hX2,hX3,hgn,hr,hg,a1,a2,b1,b2,c1,c2,hk,hz,hm,d1,d2,g1,g2]
  try simp only[impB,impN]
  repeat' first|exact ck|with_reducible apply And.intro|intro _
  all_goals first|exact hI|exact hq|exact sC|exact sA|exact q1|exact q2|exact s91|exact q3|exact hk|exact qA|exact s93|exact q5|exact s59|(rename_i h;first|exact oI h|exact nah h)|(rename_i _ h _ g;exact sL h g)|decide|omega|(refine ret_with [.fold 1 0 1] ?_;simp only[↓eB,seval,go_sem,bne,yr_qglobal,yb_qglobal,yv_qglobal,e_RESMP,hgn,hr,hg,g1,g2,Pr.x,cS,zGl,List.map_append,List.all_append,q_all,y_all,List.isEmpty_nil])
noncomputable def yp_qglobal {X:Ctx} {w0:World}:Sy.Spec Tryz.prog X w0:=specMP 36 Tryz.call36 (ya_qglobal) (fun p:(Pr)×(Gl)×Unit=>yc_qglobal p.1 p.2.1) (fun p:(Pr)×(Gl)×Unit=>yb_qglobal p.1 p.2.1) (fun p:(Pr)×(Gl)×Unit=>yr_qglobal p.1 p.2.1) (fun p:(Pr)×(Gl)×Unit=>some (yv_qglobal p.1 p.2.1)::offA (yb_qglobal p.1 p.2.1) (ys_qglobal p.1 p.2.1)) yl_qglobal yo_qglobal yn_qglobal y_qglobal
end Go.Proofs.YtlaggppdgoknjaaGreatDoor
