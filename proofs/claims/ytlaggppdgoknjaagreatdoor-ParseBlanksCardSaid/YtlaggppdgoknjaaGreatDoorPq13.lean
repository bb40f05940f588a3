/- The program's parser: what is recovered. No conditions but those in each statement. -/
import Derived.Test.YtlaggppdgoknjaaGreatDoorPq14
import Derived.Test.YtlaggppdgoknjaaGreatDoorPq125
set_option linter.unusedVariables false
set_option linter.unusedSimpArgs false
namespace Go.Proofs.YtlaggppdgoknjaaGreatDoor
open Go Go.Sy Go.RowKit
abbrev z1:List C:=[.v (.bool false)]
abbrev pnF (z2:List C) (p:Pr):List (Nat×List C×List (List C)):=[(5,z1,[[.p 8 0 0]]),(8,zPq,[p.x]),(2,z2,[z2.map fun _=>C.any]),(3,z1,[[.any]]),(4,z1,[[.any]])]
abbrev stCq:St:=⟨[(0,true,.one (.p 5 0 0)),(1,true,.one (.p 2 0 0)),(2,true,.one (.p 3 0 0)),(3,true,.one (.p 4 0 0))],[]⟩
attribute [local go_sem] Fn.c Pr.q Pr.s Tok.r cPt_d cPt_e mPq_d mPq_d' mPq_e mPq_z pnF pnOf_f pnOf_t pr_eta ptR rPq_d rPq_d' rPq_e rPq_z tkq_at wkR_self yb_qexpect yb_qfail yb_qfunction yb_qname yb_qneed yb_qopen yp_qaccept yp_qahead yp_qclose yp_qexpect yp_qfail yp_qfunction yp_qis yp_qisKind yp_qisName yp_qname yp_qneed yp_qopen yp_qparserOf yp_qvalue yr_qahead yr_qfunction yr_qis yr_qisKind yr_qisName yr_qname yr_qvalue yv_qexpect yv_qfail yv_qfunction yv_qname yv_qneed yv_qopen zTk
theorem catch_Func {X:Ctx} {w0:World} {I:Nm} {lab:Lab} {fz:Nat→Prop} {w:World} (p:Pr) (hA:AtW X w0 I lab fz (lkp (pnH (pnF z4 p))) w) (hF:∀q∈X.F,q.1∈[2,3,4,5,8]) (t:TypeId) (y:Value) :
  CallsD Tryz.prog 21 #[(I 5).p 0 0,(I 2).p 0 0,(I 3).p 0 0,(I 4).p 0 0] (.panicking [{ v:=.iface t y,recovered:=false }]) w fun e u' w'=>e= .returned (.tuple #[])∧u'= .panicking [{ v:=.iface t y,recovered:=true }]∧
   ∃I' lab' fz',AtW X w0 I' lab' fz' (lkp [(2,.vec 0 z4 [[.v (.string (bs [])),cN,cN,cN]]),(3,.vec 0 z1 [[.v (.int .i64 p.at')]]),(4,.vec 0 z1 [[.v (.int .i64 p.e)]]),(5,.dead),(8,.dead)]) w':=by
 refine callsD_of_wpS Tryz.func21 rfl fun c₀ cs hu=>?_
 obtain⟨T,hT⟩:∃T:Array Value,T = #[(I 5).p 0 0,(I 2).p 0 0,(I 3).p 0 0,(I 4).p 0 0]++Array.replicate (Tryz.f21.ntmps-(#[(I 5).p 0 0,(I 2).p 0 0,(I 3).p 0 0,(I 4).p 0 0]:Array Value).size) undef:=⟨_,rfl⟩
 rw[← hT]
 have hsz:T.size=15:=by rw[hT];simp[Tryz.ntmps21]
 have t0:T[0]?=some ((I 5).p 0 0):=by rw[hT];simp
 have t1:T[1]?=some ((I 2).p 0 0):=by rw[hT];simp
 have t2:T[2]?=some ((I 3).p 0 0):=by rw[hT];simp
 have t3:T[3]?=some ((I 4).p 0 0):=by rw[hT];simp
 clear hT
 refine wpS_seq (wpS_first (v:=.iface t y) (cs':={ c₀ with mode:=.panicking [{ v:=.iface t y,recovered:=true }] }::cs) rfl rfl rfl (by simp[recoverD,hu]) ?_)
 change wpOps _ _ _ (List.range' 1 (0+1)) _ _
 refine wp_asks (v:=.bool true) rfl rfl (by simp[execOp,go_sem,Act.eval,Act.put,hsz]) ?_
 show Code.wpS _ _ _ _ _ _
 refine wpS_cond (t:=true) (by simp[Act.eval,Act.put,hsz]) ?_
 simp only[if_true]
 refine wpS_of_wp ?_
 have hH:Holds ⟨X.M,X.Z,X.F,none,[],[]⟩ w0 15 ⟨stCq.e,pnH (pnF z4 p)⟩ ((({ tmps:=T,defers:=[] }:Act).put (some 4) (.iface t y)).put (some 5) (.bool true)) w:=by
  refine⟨?_,I,lab,fz,by simp[Act.put,hsz],⟨rfl,fun p hp=>by cases hp⟩,?_,⟨hA.h,hA.wf,hA.own,hA.fzl,hA.fzo,hA.kept,hA.fix⟩⟩
  ·intro j g v hj _ k hk
   simp only[stCq,lkp]at hj
   repeat' split at hj
   all_goals first
    |cases hj;done
    |(
     simp only[Option.some.injEq,Prod.mk.injEq]at hj
     obtain⟨_,rfl⟩:=hj
     simp only[SV.names,C.names,List.mem_singleton]at hk
     subst hk
     exact pnH_some (by simp))
  ·intro j g v hj
   simp only[stCq,lkp]at hj
   repeat' split at hj
   all_goals first
    |cases hj;done
    |(
     rename_i e
     subst e
     simp only[Option.some.injEq,Prod.mk.injEq]at hj
     obtain⟨rfl,rfl⟩:=hj
     exact⟨_,(by simp[Act.put,t0,t1,t2,t3]),rfl,.p _ _ _ _⟩)
 refine Code.wp_mono ?_ (vc_ok (P:=Tryz.prog) [] [] _ _ (fun e s'=>e=Exit.normal∧∀q∈[(2,Ch.vec 0 z4 [[.v (.string (bs [])),cN,cN,cN]]),(3,.vec 0 z1 [[.v (.int .i64 p.at')]]),(4,.vec 0 z1 [[.v (.int .i64 p.e)]]),(5,.dead),(8,.dead)],optCh (lkp s'.h q.1) q.2∧domB [(2,Ch.vec 0 z4 [[.v (.string (bs [])),cN,cN,cN]]),(3,.vec 0 z1 [[.v (.int .i64 p.at')]]),(4,.vec 0 z1 [[.v (.int .i64 p.e)]]),(5,.dead),(8,.dead)] (chNames q.2)) ?_ _ w hH)
 ·rintro e a' w' (⟨s',⟨rfl,hs⟩,hh⟩|⟨ch,_,_,_,_,_,_,_,_,hpn⟩)
  ·obtain⟨_,I',lab',fz',hA'⟩:=hh
   have h1:=at_sub (X:=⟨X.M,X.Z,X.F,none,[],[]⟩) hA'.m hs (fun q hq=>by have:=hF q hq;simpa using this)
   refine⟨hA'.d.1,_,rfl,.tuple #[],by simp[results,Tryz.results21,go_sem],rfl,rfl,I',lab',fz',⟨h1.h,h1.wf,h1.own,h1.fzl,h1.fzo,h1.kept,h1.fix⟩⟩
  ·exact hpn.elim
 ·simp only[↓eB,seval,go_sem,adv_fold,↓arO_names,↓arO_stor,↓arO_noVw,↓arO_ldc,stCq,pnH,Pr.x]
  try simp only[impB,impN]
  repeat' (first|exact ck|with_reducible apply And.intro)
  all_goals try first|decide|omega
  all_goals simp only[optCh,sameCh,domB,chNames,z4,z1,zPq,zT_nil,zT_any,zT_v,List.length_cons,List.length_nil,List.flatMap_cons,List.flatMap_nil,nm_v,List.append_nil,List.mem_cons,List.not_mem_nil,or_false,forall_eq_or_imp,forall_eq,and_self,and_true,true_and,true_or,or_true,implies_true,false_implies]
theorem fn_okQ {p:Pr} (h:okQ p) (he:(fnQ p).2.e=0):okQ (fnQ p).2:=by
 have n1:=wan_nx (t:=tFn) h.ok
 have n2:=n1.trans (nam_nx n1.ok)
 have n3:Nx p (fq3 p):=n2.trans (wan_nx (t:=[40]) n2.ok)
 have n4:Nx p (fqP p).2:=n3.trans (parW_nx n3.ok)
 have k4:=fq_ps n3.ok
 have e4:(fqP p).2.e=0:=ps_e k4 he
 have q4:okQ (fqP p).2:=h.nx n4 (by simpa using e4)
 have kO:∀q,opeP (fqP p).2=q→okP q→Ps q (fnQ p).2:=by
  intro q hq hk
  have:(fnQ p).2=shut (bodS (locW (opeP (fqP p).2)).2).2:=rfl
  rw[this,hq]
  exact((locW_nx hk).trans (bodS_nx (locW_nx hk).ok)).ps.shut
 cases hi:isT [123] (fqP p).2 with
 |false=>
  have:=ps_e (kO _ (opeP_f hi) (fail_nx 51 q4.ok).ok) he
  exact absurd this (failP_ne (by decide) _)
 |true=>
 cases hb:opnB (fqP p).2 with
 |false=>
  have h1:opeP (fqP p).2=failP 52 (fqP p).2:=by rw[opeP_t q4 hi];exact(opn_52 q4 hb).1
  have:=ps_e (kO _ h1 (fail_nx 52 q4.ok).ok) he
  exact absurd this (failP_ne (by decide) _)
 |true=>
  have h1:opeP (fqP p).2=adv (opnP (fqP p).2):=by rw[opeP_t q4 hi,opP_t hb]
  have m1:=opn_adv q4.ok hb (isT_e hi).2
  have m2:=m1.trans ((locW_nx m1.ok).trans (bodS_nx (locW_nx m1.ok).ok))
  have m3:=shut_nx q4.ok hb m2
  have:(fnQ p).2=shut (bodS (locW (adv (opnP (fqP p).2))).2).2:=by rw[← h1];rfl
  rw[← this]at m3
  exact q4.nx m3 (by simpa using he)
def xF (z2:List C) (fid:Nat) (fz:Nat→Prop) (I:Nm) (N:Pr):Ctx:=⟨fun _=>False,fz,[2,3,4,5,8].map fun k=>(k,I k),(if N.b=true then some (pnF z2 N) else none),[{ target:=.fn (.func fid) #[(I 5).p 0 0,(I 2).p 0 0,(I 3).p 0 0,(I 4).p 0 0],args:=#[] }],[(2,(I 2).p 0 0),(3,(I 3).p 0 0),(4,(I 4).p 0 0),(5,(I 5).p 0 0)]⟩
theorem xF_pn (z2:List C) (fid:Nat) (fz:Nat→Prop) (I:Nm) (N:Pr):(xF z2 fid fz I N).pn=if N.b=true then some (pnF z2 N) else none:=rfl
theorem xF_kp (z2:List C) (fid:Nat) (fz:Nat→Prop) (I:Nm) (N:Pr):(xF z2 fid fz I N).kp=[(2,(I 2).p 0 0),(3,(I 3).p 0 0),(4,(I 4).p 0 0),(5,(I 5).p 0 0)]:=rfl
theorem inv_Func (cap:Array Value) (w:World):(invoke (.fn (.func 21) cap) #[]).run Tryz.prog w= .ok (.enter 21 cap) w:=by
 have:=Tryz.call21 cap w
 simp[go_sem,this]
def funP (s:List UInt8):Pr:=(fnQ (p0 (rxT s).1 (s.length:Int))).2
def funN (s:List UInt8):Pr:=nedP (endB (funP s)) (funP s)
theorem end_N {q:Pr} (h:okP q):(endP q).e=(nedP (endB (shut q)) (shut q)).e∧(endP q).at'=(nedP (endB (shut q)) (shut q)).at':=by
 obtain⟨h1,h2,_⟩:=h
 have hB:endB (shut q)=(q.i==(q.l.length:Int)):=rfl
 rw[hB]
 unfold endP
 by_cases he:q.e=0
 ·by_cases hi:q.i<(q.l.length:Int)
  ·have hn:(q.i==(q.l.length:Int))=false:=by simp;omega
   rw[if_pos (by simp[he,hi]),hn]
   obtain⟨a1,a2⟩:=failP_x (c:=51) he
   obtain⟨b1,b2⟩:=failP_x (c:=51) (p:=shut q) he
   show _=(failP 51 (shut q)).e∧_=(failP 51 (shut q)).at'
   rw[a1,a2,b1,b2];exact⟨rfl,rfl⟩
  ·have hn:(q.i==(q.l.length:Int))=true:=by simp;omega
   rw[if_neg (by simp[hi]),hn];exact⟨rfl,rfl⟩
 ·rw[if_neg (by simp[he])]
  have:=ned_ps (shut q) (q.i==(q.l.length:Int)) he
  exact⟨this.1.symm,this.2.symm⟩
theorem fun_N (s:List UInt8) (h:pofB s=false):funF s=if (funN s).e != 0 then (fn0,(funN s).at',(funN s).e) else ((fnQ (p0 (rxT s).1 (s.length:Int))).1,0,0):=by
 have h1:=hd2_nx s (s.length:Int)
 have h3:=parW_nx h1.ok
 have h4:=ope_ok' h3.ok
 have h5:=locW_nx h4
 have h6:=bodS_nx h5.ok
 have e:fp6 (rxT s).1 (s.length:Int)=endP (bodS (locW (opeP (parW (hd2 (rxT s).1 (s.length:Int))).2)).2).2:=rfl
 obtain⟨a,b⟩:=end_N h6.ok
 have eN:funN s=nedP (endB (shut (bodS (locW (opeP (parW (hd2 (rxT s).1 (s.length:Int))).2)).2).2)) (shut (bodS (locW (opeP (parW (hd2 (rxT s).1 (s.length:Int))).2)).2).2):=rfl
 rw[← eN,← e]at a b
 unfold funF
 unfold pofB at h
 rw[h,a,b]
 rfl
abbrev yr_qFunc (s:List UInt8):SV:=.tup [.inr (funF s).1.c,.inl (.v (.int .i64 (funF s).2.1)),.inl (.v (.int .i64 (funF s).2.2))]
abbrev sC (s:List UInt8):St:=⟨[(2,true,.one (.p 2 0 0)),(3,true,.one (.p 3 0 0)),(4,true,.one (.p 4 0 0)),(5,true,.one (.p 5 0 0))],[(2,.vec 0 z4 [[.v (.string (bs [])),cN,cN,cN]]),(3,.vec 0 z1 [[.v (.int .i64 0)]]),(4,.vec 0 z1 [[.v (.int .i64 0)]]),(5,.vec 0 z1 [[.p 8 0 0]]),(8,.vec 0 zPq [(p0 (rxT s).1 (s.length:Int)).q])]⟩
theorem p0_okQ (s:List UInt8) (n:Int):okQ (p0 (rxT s).1 n):=⟨p0_ok s n,rfl,rxT_lex s⟩
theorem p0_okN (s:List UInt8) (n:Int):okN (p0 (rxT s).1 n):=⟨Int.le_refl _,by show (0:Int)≤200;decide⟩
set_option maxRecDepth 20000 in set_option maxHeartbeats 16000000 in
theorem y_qFunc:CallsY Tryz.prog 9 (acS cStr ac0) (fun p:List UInt8×Unit=>smallB p.1) (fun p=>yr_qFunc p.1):=by
 rintro ⟨s,_u⟩ w fz xs hc hfz hl hx
 have hs:smallB s:=hc
 refine calls_td Tryz.func9 rfl w fz (acS cStr ac0) (fun p:List UInt8×Unit=>yr_qFunc p.1) _ xs hfz hl hx (Nat.le_of_ble_eq_true rfl) ?_
 clear hx hl xs
 generalize hQd:bodyPostD Tryz.prog Tryz.f9 (DPost w fz fun u=>leV u (yr_qFunc s))=Qd
 simp only[Tryz.f9]
 have hq0:∀e s' act w',e≠Exit.normal→retQ Tryz.prog (clX fz) Tryz.f9.results.toList (RESL (yr_qFunc s)) e s'→Holds (clX fz) w 27 s' act w'→Qd e act w':=by
  intro e s' act w' hne hr hh
  rw[← hQd]
  cases e with
  |normal=>exact absurd rfl hne
  |ret=>
   show Leaves _ _ _ _ act.defers .returning w'
   rw[hh.defers]
   exact ret_at rfl rfl hfz hr hh
  |_=>exact hr.elim
 have hp0:∀ch act w',keepA (clX fz) act→PanW (clX fz) w ch w'→Qd (.panic ch) act w':=by
  rintro ch act w' _ ⟨_,_,_,_,_,_,hpn⟩
  exact hpn.elim
 refine td_next _ [yp_qparserOf] [] hq0 hp0 ?_
 simp only[↓eB,seval,go_sem,adv_fold,↓arO_names,↓arO_stor,↓arO_noVw,↓arO_ldc]
 refine td_next _ [yp_qparserOf] [] hq0 hp0 ?_
 cases h:pofB s with
 |true=>
  obtain⟨e1,e2⟩:=pof_t h
  have hr:funF s=(fn0,(rxT s).2.1,(rxT s).2.2):=by unfold funF;unfold pofB at h;rw[h];rfl
  have h':((rxT s).2.2 != 0)=true:=h
  simp only[↓eB,seval,go_sem,adv_fold,↓arO_names,↓arO_stor,↓arO_noVw,↓arO_ldc,yr_qparserOf,ym_qparserOf,e1,e2]
  refine⟨hs,?_⟩
  refine td_next _ [yp_qparserOf] [] hq0 hp0 ?_
  simp only[↓eB,seval,go_sem,adv_fold,↓arO_names,↓arO_stor,↓arO_noVw,↓arO_ldc,h']
  try simp only[impB,impN]
  repeat' first|exact ck|with_reducible apply And.intro|intro _
  all_goals first|(rename_i h;first|exact oI h|exact nah h)|(rename_i _ h _ g;exact sL h g)|decide|omega|(refine ret_with [] ?_;simp only[↓eB,seval,go_sem,bne,yr_qFunc,hr,Pr.x,arS,smS,↓arO_names,↓arO_stor,↓arO_noVw,↓arO_ldc,Tryz.f9])
 |false=>
  obtain⟨e1,e2⟩:=pof_f h
  have hF:=fun_N s h
  simp only[↓eB,seval,go_sem,adv_fold,↓arO_names,↓arO_stor,↓arO_noVw,↓arO_ldc,yr_qparserOf,ym_qparserOf,e1,e2]
  refine⟨hs,?_⟩
  refine td_next _ [yp_qparserOf] [] hq0 hp0 ?_
  simp only[↓eB,seval,go_sem,adv_fold,↓arO_names,↓arO_stor,↓arO_noVw,↓arO_ldc]
  refine td_to (t:=sC s) (to_with [] ?_) ?_
  ·simp only[↓eB,seval,go_sem,Pr.x,arS,smS,↓arO_names,↓arO_stor,↓arO_noVw,↓arO_ldc,z4,z1,sC]
  intro a w1 hs1
  obtain⟨I,hn,hsl,hD⟩:=holds_defer hs1 (t:=17) rfl [(2,2),(3,3),(4,4),(5,5)] (by simp[sC,lkp]) [2,3,4,5,8] (by simp[sC,lkp]) (if (funN s).b=true then some (pnF z4 (funN s)) else none)
  refine wp_defer rfl rfl rfl rfl rfl rfl (by rw[hn];decide) ?_
  have v2:a.tmps[2]?=some ((I 2).p 0 0):=hsl (2,2) (by simp)
  have v3:a.tmps[3]?=some ((I 3).p 0 0):=hsl (3,3) (by simp)
  have v4:a.tmps[4]?=some ((I 4).p 0 0):=hsl (4,4) (by simp)
  have v5:a.tmps[5]?=some ((I 5).p 0 0):=hsl (5,5) (by simp)
  have ev:(#[Operand.tmp 5,Operand.tmp 2,Operand.tmp 3,Operand.tmp 4].map a.eval) = #[(I 5).p 0 0,(I 2).p 0 0,(I 3).p 0 0,(I 4).p 0 0]:=by simp[Act.eval,v2,v3,v4,v5]
  have hdf:a.defers=[]:=hs1.defers
  rw[ev,hdf]
  refine(?_:TriD (P:=Tryz.prog) (xF z4 21 fz I (funN s)) w 27 _ (sC s) Qd) _ _ (hD _ _)
  clear hD hs1 ev v2 v3 v4 v5 hsl hn hdf hq0 hp0
  have nS:=(p0_okQ s (s.length:Int))
  have nN:=(p0_okN s (s.length:Int))
  have kN:Ps (funP s) (funN s):=ned_ps _ _
  have hq1:∀e s' act w',e≠Exit.normal→(e= .ret∧(funN s).b=false∧RetP Tryz.prog (xF z4 21 fz I (funN s)) Tryz.f9.results.toList (RESL (yr_qFunc s)) s')→Holds (xF z4 21 fz I (funN s)) w 27 s' act w'→Qd e act w':=by
   rintro e s' act w' _ ⟨rfl,_,hr⟩ hh
   rw[← hQd]
   show Leaves _ _ _ _ act.defers .returning w'
   rw[hh.defers]
   obtain⟨x,hx1,hx2⟩:=ret_at rfl rfl hfz hr hh
   refine leaves_cons (f:=21) (args:=#[(I 5).p 0 0,(I 2).p 0 0,(I 3).p 0 0,(I 4).p 0 0]) (by simp) (inv_Func _ _) ?_
   refine(idle_Func _ rfl _).mono ?_
   rintro e u' w2 ⟨rfl,rfl,rfl⟩
   exact⟨x,hx1,hx2⟩
  have hp1:∀ch act w',keepA (xF z4 21 fz I (funN s)) act→PanW (xF z4 21 fz I (funN s)) w ch w'→Qd (.panic ch) act w':=by
   rintro ch act w' ⟨hd,hk⟩ ⟨⟨t,y,rfl⟩,I',lab,fz',H',hA,hpn⟩
   rw[← hQd]
   have hbt:(funN s).b=true:=by
    cases hb:(funN s).b with
    |true=>rfl
    |false=>rw[xF_pn,hb]at hpn;exact hpn.elim
   rw[xF_pn,hbt,if_pos rfl]at hpn
   have hI:∀k∈[2,3,4,5,8],I' k=I k:=fun k hk2=>(hA.fix (k,I k) (List.mem_map.2 ⟨k,hk2,rfl⟩)).2
   have hB:=at_pn hA (pnF z4 (funN s)) hpn (by
    intro p hp r hr c hc k hk2
    simp only[pnF,List.mem_cons,List.not_mem_nil,or_false]at hp
    rcases hp with rfl|rfl|rfl|rfl|rfl<;>simp only[List.mem_cons,List.not_mem_nil,or_false,List.map_cons,List.map_nil]at hr<;>subst hr
    ·simp only[List.mem_cons,List.not_mem_nil,or_false]at hc;subst hc
     simp only[C.names,List.mem_singleton]at hk2;subst hk2;simp[pnF]
    ·rw[prx_nm _ c hc]at hk2;cases hk2
    ·simp only[List.mem_cons,List.not_mem_nil,or_false]at hc
     rcases hc with rfl|rfl|rfl|rfl<;>cases hk2
    ·simp only[List.mem_cons,List.not_mem_nil,or_false]at hc;subst hc;cases hk2
    ·simp only[List.mem_cons,List.not_mem_nil,or_false]at hc;subst hc;cases hk2) (by
    intro p hp
    obtain⟨k,hk2,rfl⟩:=List.mem_map.1 hp
    revert hk2;show k∈[2,3,4,5,8]→k∈[5,8,2,3,4]
    simp only[List.mem_cons,List.not_mem_nil,or_false];omega)
   have hC:=catch_Func (funN s) hB (by
    intro q hq
    obtain⟨k,hk2,rfl⟩:=List.mem_map.1 hq
    exact hk2) t y
   rw[hI 5 (by simp),hI 2 (by simp),hI 3 (by simp),hI 4 (by simp)]at hC
   show Leaves _ _ _ _ act.defers _ w'
   rw[hd]
   refine leaves_cons (f:=21) (args:=#[(I 5).p 0 0,(I 2).p 0 0,(I 3).p 0 0,(I 4).p 0 0]) (by simp) (inv_Func _ _) ?_
   refine hC.mono ?_
   rintro e u' w2 ⟨rfl,rfl,I2,lab2,fz2,hA2⟩
   have hI2:∀k∈[2,3,4,5,8],I2 k=I k:=fun k hk2=>(hA2.fix (k,I k) (List.mem_map.2 ⟨k,hk2,rfl⟩)).2
   have hr:funF s=(fn0,(funN s).at',(funN s).e):=by
    rw[hF,if_pos]
    have:(!((funN s).e==0))=true:=hbt
    exact this
   obtain⟨x,hx1,hx2⟩:=results_at (P:=Tryz.prog) (fn:=Tryz.f9) (s:=⟨[(2,true,.one (.p 2 0 0)),(3,true,.one (.p 3 0 0)),(4,true,.one (.p 4 0 0))],[(2,.vec 0 z4 [[.v (.string (bs [])),cN,cN,cN]]),(3,.vec 0 z1 [[.v (.int .i64 (funN s).at')]]),(4,.vec 0 z1 [[.v (.int .i64 (funN s).e)]]),(5,.dead),(8,.dead)]⟩) (tmps:=act.tmps) (vs:=[.agg [.v (.string (bs [])),cN,cN,cN],.one (.v (.int .i64 (funN s).at')),.one (.v (.int .i64 (funN s).e))]) hA2 (by
    intro j g v hj
    simp only[lkp]at hj
    repeat' split at hj
    all_goals first
     |cases hj;done
     |(
      rename_i e
      subst e
      simp only[Option.some.injEq,Prod.mk.injEq]at hj
      obtain⟨rfl,rfl⟩:=hj
      refine⟨rfl,_,rfl,?_⟩
      first|(rw[hI2 2 (by decide)];exact hk (2,(I 2).p 0 0) (by simp[xF]))|(rw[hI2 3 (by decide)];exact hk (3,(I 3).p 0 0) (by simp[xF]))|(rw[hI2 4 (by decide)];exact hk (4,(I 4).p 0 0) (by simp[xF])))) (by
    simp only[↓eB,seval,go_sem,Tryz.f9,z4,z1]) rfl
   refine⟨x,hx1,dpost_of rfl rfl hfz hA2 hx2 rfl ?_⟩
   rw[show yr_qFunc s= .tup [.inr fn0.c,.inl (.v (.int .i64 (funN s).at')),.inl (.v (.int .i64 (funN s).e))] by unfold yr_qFunc;rw[hr]]
   simp only[↓eB,seval,go_sem]
  refine td_next _ [yp_qfunction,yp_qneed,yp_qended] [] hq1 hp1 ?_
  cases e1:((funP s).e==0) with
  |false=>
   obtain⟨o1,o2,g1,g2⟩:=ps_w kN e1
   have hx:(funN s).x=(funP s).x:=(pan kN e1).2
   have hP:(fnQ (p0 (rxT s).1 (s.length:Int))).2=funP s:=rfl
   simp only[↓eB,seval,go_sem,adv_fold,↓arO_names,↓arO_stor,↓arO_noVw,↓arO_ldc,hP,o1,o2,g1,g2,hx,z1,z4,xF_pn,xF_kp]
   try simp only[impB,impN]
   repeat' first|exact ck|with_reducible apply And.intro|intro _
   all_goals first|exact nS|exact nN|(rename_i h;first|exact oI h|exact nah h)|(rename_i _ h _ g;exact sL h g)|decide|omega|(refine ret_with [] ?_;simp only[↓eB,seval,go_sem,bne])
  |true=>
  obtain⟨a1,a2⟩:=go_w e1
  have qP:=fn_okQ nS (show (fnQ (p0 (rxT s).1 (s.length:Int))).2.e=0 from (by simpa using e1:(funP s).e=0))
  have hP:(fnQ (p0 (rxT s).1 (s.length:Int))).2=funP s:=rfl
  rw[hP]at qP
  have hI:=qP.i
  generalize hV:(fnQ (p0 (rxT s).1 (s.length:Int))).1=V at hF
  simp only[↓eB,seval,go_sem,adv_fold,↓arO_names,↓arO_stor,↓arO_noVw,↓arO_ldc,a1,a2,hP,hV,z1,z4,xF_pn,xF_kp]
  refine⟨⟨nS,nN⟩,?_⟩
  refine td_next _ [yp_qfunction,yp_qneed,yp_qended] [] hq1 hp1 ?_
  cases eE:endB (funP s) with
  |false=>
   have hN:nedP false (funP s)=funN s:=by unfold funN;rw[eE]
   have e2:((funN s).e==0)=false:=by rw[← hN];show ((failP 51 (funP s)).e==0)=false;simpa using failP_ne (c:=51) (by decide) (funP s)
   obtain⟨o1,o2,g1,g2⟩:=ps_w (Ps.refl (funN s)) e2
   simp only[↓eB,seval,go_sem,adv_fold,↓arO_names,↓arO_stor,↓arO_noVw,↓arO_ldc,yp_qended,yr_qended,eE,hN,g1,g2,z1,z4,xF_pn,xF_kp]
   try simp only[impB,impN]
   repeat' first|exact ck|with_reducible apply And.intro|intro _
   all_goals first|exact hI|exact qP|(rename_i h;first|exact oI h|exact nah h)|(rename_i _ h _ g;exact sL h g)|decide|omega|(refine ret_with [] ?_;simp only[↓eB,seval,go_sem,bne])
  |true=>
   have hN:nedP true (funP s)=funN s:=by unfold funN;rw[eE]
   have hN2:funN s=funP s:=by rw[← hN];rfl
   have hb2:(funN s).b=false:=by rw[hN2];exact a2
   have hw2:(funN s).w=(zPq,[(funP s).q]):=by rw[hN2];exact a1
   simp only[↓eB,seval,go_sem,adv_fold,↓arO_names,↓arO_stor,↓arO_noVw,↓arO_ldc,yp_qended,yr_qended,eE,hN,hb2,hw2,z1,z4,xF_pn,xF_kp]
   try simp only[impB,impN]
   repeat' (first|exact ck|with_reducible apply And.intro)
   all_goals try first|exact hI|exact qP|decide|omega
   have hr:funF s=(V,0,0):=by
    rw[hF,if_neg]
    have:(funN s).e=0:=by rw[hN2];simpa using e1
    simp[this]
   refine td_last _ [yp_qfunction,yp_qneed,yp_qended] [] (fun e s' act w' hq hh=>hq1 e s' act w' (by rintro rfl;cases hq.1) hq hh) hp1 ?_
   simp only[↓eB,seval,go_sem,adv_fold,↓arO_names,↓arO_stor,↓arO_noVw,↓arO_ldc,z1,z4,xF_pn,xF_kp]
   try simp only[impB,impN]
   repeat' first|exact ck|with_reducible apply And.intro|intro _
   all_goals first|exact hb2|exact rfl|(rename_i h;first|exact oI h|exact nah h)|(rename_i _ h _ g;exact sL h g)|decide|omega|(refine ret_with [] ?_;simp only[↓eB,seval,go_sem,bne,yr_qFunc,hr,Pr.x,arS,smS,↓arO_names,↓arO_stor,↓arO_noVw,↓arO_ldc,Tryz.f9])
end Go.Proofs.YtlaggppdgoknjaaGreatDoor
