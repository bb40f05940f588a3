/- The program's Globals. No conditions but those in each statement. -/
import Derived.Test.YtlaggppdgoknjaaGreatDoorPq13
set_option linter.unusedVariables false
set_option linter.unusedSimpArgs false
namespace Go.Proofs.YtlaggppdgoknjaaGreatDoor
open Go Go.Sy Go.RowKit
attribute [local go_sem] Gl.c' Gy.c Pr.q Pr.s Pr.x Tok.r cPt_d cPt_e mGl_d mGl_e mGl_z mPq_d mPq_d' mPq_e mPq_z pnOf_f pnOf_t pr_eta ptR rPq_d rPq_d' rPq_e rPq_z tkq_at wkR_self xF_kp xF_pn yb_qexpect yb_qfail yb_qglobal yb_qname yb_qneed yb_qopen yp_qaccept yp_qahead yp_qclose yp_qended yp_qexpect yp_qfail yp_qglobal yp_qis yp_qisKind yp_qisName yp_qname yp_qneed yp_qopen yp_qparserOf yp_qvalue yr_qahead yr_qended yr_qis yr_qisKind yr_qisName yr_qname yr_qvalue ys_qglobal yv_qexpect yv_qfail yv_qglobal yv_qname yv_qneed yv_qopen zGl zGy zSq zTk
theorem catch_Globals {X:Ctx} {w0:World} {I:Nm} {lab:Lab} {fz:Nat→Prop} {w:World} (p:Pr) (hA:AtW X w0 I lab fz (lkp (pnH (pnF zGl p))) w) (hF:∀q∈X.F,q.1∈[2,3,4,5,8]) (t:TypeId) (y:Value) :
  CallsD Tryz.prog 35 #[(I 5).p 0 0,(I 2).p 0 0,(I 3).p 0 0,(I 4).p 0 0] (.panicking [{ v:=.iface t y,recovered:=false }]) w fun e u' w'=>e= .returned (.tuple #[])∧u'= .panicking [{ v:=.iface t y,recovered:=true }]∧
   ∃I' lab' fz',AtW X w0 I' lab' fz' (lkp [(2,.vec 0 zGl [[cN,cN]]),(3,.vec 0 z1 [[.v (.int .i64 p.at')]]),(4,.vec 0 z1 [[.v (.int .i64 p.e)]]),(5,.dead),(8,.dead)]) w':=by
 refine callsD_of_wpS Tryz.func35 rfl fun c₀ cs hu=>?_
 obtain⟨T,hT⟩:∃T:Array Value,T = #[(I 5).p 0 0,(I 2).p 0 0,(I 3).p 0 0,(I 4).p 0 0]++Array.replicate (Tryz.f35.ntmps-(#[(I 5).p 0 0,(I 2).p 0 0,(I 3).p 0 0,(I 4).p 0 0]:Array Value).size) undef:=⟨_,rfl⟩
 rw[← hT]
 have hsz:T.size=15:=by rw[hT];simp[Tryz.ntmps35]
 have t0:T[0]?=some ((I 5).p 0 0):=by rw[hT];simp
 have t1:T[1]?=some ((I 2).p 0 0):=by rw[hT];simp
 have t2:T[2]?=some ((I 3).p 0 0):=by rw[hT];simp
 have t3:T[3]?=some ((I 4).p 0 0):=by rw[hT];simp
 clear hT
 refine wpS_seq (wpS_first (v:=.iface t y) (cs':={ c₀ with mode:=.panicking [{ v:=.iface t y,recovered:=true }] }::cs) rfl rfl rfl (by simp[recoverD,hu]) ?_)
 change wpOps _ _ _ (List.range' 1 (0+1)) _ _
 refine wp_asks (v:=.bool true) rfl rfl (by simp[execOp,go_sem,Act.eval,Act.put,hsz]) ?_
 show Code.wpS _ _ _ _ _ _
 refine wpS_cond (t:=true) (by simp[Act.eval,Act.put,hsz]) ?_
 simp only[if_true]
 refine wpS_of_wp ?_
 have hH:Holds ⟨X.M,X.Z,X.F,none,[],[]⟩ w0 15 ⟨stCq.e,pnH (pnF zGl p)⟩ ((({ tmps:=T,defers:=[] }:Act).put (some 4) (.iface t y)).put (some 5) (.bool true)) w:=by
  refine⟨?_,I,lab,fz,by simp[Act.put,hsz],⟨rfl,fun p hp=>by cases hp⟩,?_,⟨hA.h,hA.wf,hA.own,hA.fzl,hA.fzo,hA.kept,hA.fix⟩⟩
  ·intro j g v hj _ k hk
   simp only[stCq,lkp]at hj
   repeat' split at hj
   all_goals first
    |cases hj;done
    |(
     simp only[Option.some.injEq,Prod.mk.injEq]at hj
     obtain⟨_,rfl⟩:=hj
     simp only[SV.names,C.names,List.mem_singleton]at hk
     subst hk
     exact pnH_some (by simp))
  ·intro j g v hj
   simp only[stCq,lkp]at hj
   repeat' split at hj
   all_goals first
    |cases hj;done
    |(
     rename_i e
     subst e
     simp only[Option.some.injEq,Prod.mk.injEq]at hj
     obtain⟨rfl,rfl⟩:=hj
     exact⟨_,(by simp[Act.put,t0,t1,t2,t3]),rfl,.p _ _ _ _⟩)
 refine Code.wp_mono ?_ (vc_ok (P:=Tryz.prog) [] [] _ _ (fun e s'=>e=Exit.normal∧∀q∈[(2,Ch.vec 0 zGl [[cN,cN]]),(3,.vec 0 z1 [[.v (.int .i64 p.at')]]),(4,.vec 0 z1 [[.v (.int .i64 p.e)]]),(5,.dead),(8,.dead)],optCh (lkp s'.h q.1) q.2∧domB [(2,Ch.vec 0 zGl [[cN,cN]]),(3,.vec 0 z1 [[.v (.int .i64 p.at')]]),(4,.vec 0 z1 [[.v (.int .i64 p.e)]]),(5,.dead),(8,.dead)] (chNames q.2)) ?_ _ w hH)
 ·rintro e a' w' (⟨s',⟨rfl,hs⟩,hh⟩|⟨ch,_,_,_,_,_,_,_,_,hpn⟩)
  ·obtain⟨_,I',lab',fz',hA'⟩:=hh
   have h1:=at_sub (X:=⟨X.M,X.Z,X.F,none,[],[]⟩) hA'.m hs (fun q hq=>by have:=hF q hq;simpa using this)
   refine⟨hA'.d.1,_,rfl,.tuple #[],by simp[results,Tryz.results35,go_sem],rfl,rfl,I',lab',fz',⟨h1.h,h1.wf,h1.own,h1.fzl,h1.fzo,h1.kept,h1.fix⟩⟩
  ·exact hpn.elim
 ·simp only[↓eB,seval,go_sem,adv_fold,cS,stCq,pnH,pnF]
  try simp only[impB,impN]
  repeat' (first|exact ck|with_reducible apply And.intro)
  all_goals try first|decide|omega
  all_goals simp only[optCh,sameCh,domB,chNames,zGl,z4,z1,zPq,zT_nil,zT_any,zT_v,List.length_cons,List.length_nil,List.flatMap_cons,List.flatMap_nil,nm_v,List.append_nil,List.mem_cons,List.not_mem_nil,or_false,forall_eq_or_imp,forall_eq,and_self,and_true,true_and,true_or,or_true,implies_true,false_implies,List.set_cons_zero,List.set_cons_succ,List.map_cons,List.map_nil]
theorem mGl_d' (c:List (List UInt8)) (a:List Gy):mGl.d [.ov [.v (.string (bs []))] (c.map cS),.ov [.v (.string (bs [])),.v (.int .i64 0)] (a.map Gy.c)]=some ⟨c,a⟩:=mGl_d c a
theorem xF_F (z2:List C) (fid:Nat) (fz:Nat→Prop) (I:Nm) (N:Pr):(∀p∈(xF z2 fid fz I N).F,(p.1==2||(p.1==3||(p.1==4||(p.1==5||p.1==8))))=true)=True:=by
 simp[xF]
theorem inv_Globals (cap:Array Value) (w:World):(invoke (.fn (.func 35) cap) #[]).run Tryz.prog w= .ok (.enter 35 cap) w:=by
 have:=Tryz.call35 cap w
 simp[go_sem,this]
def glL:Nat→Gl→Pr→Gl×Pr
 |0,g,p=>(g,p)
 |k+1,g,p=>if (p.e==0&&!endB p)=true then glL k (glG g p) (glP g.n p) else (g,p)
def gloP (s:List UInt8):Gl×Pr:=glL (rxT s).1.length ⟨[],[]⟩ (p0 (rxT s).1 (s.length:Int))
def gloQ (s:List UInt8):Gl×Int×Int:=if pofB s=true then (⟨[],[]⟩,(rxT s).2.1,(rxT s).2.2) else if (gloP s).2.e != 0 then (⟨[],[]⟩,(gloP s).2.at',(gloP s).2.e) else ((gloP s).1,0,0)
def Gl.d (g:Gl):List C:=[.d (.sl zSqD (g.c.map cSd)),.d (.sl zGyD (g.a.map Gy.r))]
theorem glL_f (k:Nat) (g:Gl) {p:Pr} (he:(p.e==0)=false):glL k g p=(g,p):=by
 cases k with
 |zero=>rfl
 |succ k=>simp only[glL,he,Bool.false_and,Bool.false_eq_true,if_false]
theorem gl_ok {p:Pr} (h:okQ p) (n:Int) (he:(glP n p).e=0):okQ (glP n p)∧p.i+1≤(glP n p).i∧(glP n p).l=p.l:=by
 unfold glP at he ⊢
 split
 ·rename_i hi
  rw[if_pos hi]at he
  have ha:=isT_okQ h hi
  have n1:=dec_nx (n:=n) (most:=20) ha.ok
  have n2:=wan_nx (t:=[59]) n1.ok
  have n3:=(isT_adv h.ok hi).trans (n1.trans n2)
  refine⟨h.nx n3 (by simpa using he),?_,n3.l⟩
  have e1:=adv_i h.ok (isT_e hi).2
  have:=(n1.trans n2).i
  omega
 ·rename_i hi
  rw[if_neg hi]at he
  have n1:=wan_nx (t:=tArr) h.ok
  have n2:=dec_nx (n:=n) (most:=20) n1.ok
  have n3:=wan_nx (t:=[91]) n2.ok
  have hL:(lenP (gA4 n p)).e=0:=by
   have h1:∀(t:List UInt8) (q:Pr),(wanP t q).e=0→q.e=0:=by
    intro t q hq
    unfold wanP at hq
    split at hq
    ·exact hq
    ·exact absurd hq (failP_ne (by decide) q)
   exact h1 _ _ (h1 _ _ he)
  have h4:(gA4 n p).e=0:=ps_e (len_ps _) hL
  have nA:Nx p (gA4 n p):=by
   unfold gA4 gA2
   exact(n1.trans (n2.trans n3)).trans (ned_nx n3.ok)
  have q4:=h.nx nA (by simpa using h4)
  have hB:numB (wanP [91] (gA2 n p))=true:=by
   cases hB:numB (wanP [91] (gA2 n p)) with
   |true=>rfl
   |false=>
    unfold gA4 at h4
    rw[hB]at h4
    exact absurd h4 (failP_ne (by decide) _)
  have e4:gA4 n p=wanP [91] (gA2 n p):=by unfold gA4;rw[hB];rfl
  have hk:kdB 1 (gA4 n p)=true:=by
   rw[e4];unfold numB at hB
   simp only[Bool.and_eq_true]at hB;exact hB.1
  obtain⟨_,_,_,k4,_⟩:=kd_num q4 hk
  have hA:lenP (gA4 n p)=adv (gA4 n p):=by
   unfold lenP at hL ⊢
   split
   ·rename_i hm;rw[if_pos hm]at hL;exact absurd hL (failP_ne (by decide) _)
   ·rfl
  rw[hA]at he ⊢
  have qA:=adv_okQ q4 k4
  have n5:=adv_nx q4.ok k4 q4.e
  have n6:=wan_nx (t:=[93]) qA.ok
  have n7:=wan_nx (t:=[59]) n6.ok
  have nn:=nA.trans (n5.trans (n6.trans n7))
  refine⟨h.nx nn (by simpa using he),?_,nn.l⟩
  have e1:=adv_i q4.ok k4
  have:=nA.i
  have:=(n6.trans n7).i
  omega
theorem gG_len (g:Gl) (p:Pr):(glG g p).c.length+(glG g p).a.length=g.c.length+g.a.length+1:=by
 unfold glG
 split
 ·simp;omega
 ·simp;omega
abbrev yr_qGlobals (s:List UInt8):SV:=.tup [.inr (gloQ s).1.d,.inl (.v (.int .i64 (gloQ s).2.1)),.inl (.v (.int .i64 (gloQ s).2.2))]
abbrev sG (r:List C) (q:Pr):St:=⟨[(2,true,.one (.p 2 0 0)),(3,true,.one (.p 3 0 0)),(4,true,.one (.p 4 0 0)),(5,true,.one (.p 5 0 0))],[(2,.vec 0 zGl [r]),(3,.vec 0 z1 [[.v (.int .i64 0)]]),(4,.vec 0 z1 [[.v (.int .i64 0)]]),(5,.vec 0 z1 [[.p 8 0 0]]),(8,.vec 0 zPq [q.q])]⟩
theorem idle_Globals (xs:Array Value) (hx:xs.size=4) (w:World):CallsD Tryz.prog 35 xs .returning w fun e u' w'=>e= .returned (.tuple #[])∧u'= .returning∧w'=w:=idleG xs hx w
theorem glo_F (s:List UInt8) (h:pofB s=false):gloQ s=if (gloP s).2.e != 0 then (⟨[],[]⟩,(gloP s).2.at',(gloP s).2.e) else ((gloP s).1,0,0):=by unfold gloQ;rw[if_neg (by rw[h];decide)]
set_option maxRecDepth 20000 in set_option maxHeartbeats 16000000 in
theorem y_qGlobals:CallsY Tryz.prog 12 (acS cStr ac0) (fun p:List UInt8×Unit=>smallB p.1) (fun p=>yr_qGlobals p.1):=by
 rintro ⟨s,_u⟩ w fz xs hc hfz hl hx
 have hs:smallB s:=hc
 refine calls_td Tryz.func12 rfl w fz (acS cStr ac0) (fun p:List UInt8×Unit=>yr_qGlobals p.1) _ xs hfz hl hx (Nat.le_of_ble_eq_true rfl) ?_
 clear hx hl xs
 generalize hQd:bodyPostD Tryz.prog Tryz.f12 (DPost w fz fun u=>leV u (yr_qGlobals s))=Qd
 simp only[Tryz.f12]
 have hq0:∀e s' act w',e≠Exit.normal→retQ Tryz.prog (clX fz) Tryz.f12.results.toList (RESL (yr_qGlobals s)) e s'→Holds (clX fz) w 26 s' act w'→Qd e act w':=by
  intro e s' act w' hne hr hh
  rw[← hQd]
  cases e with
  |normal=>exact absurd rfl hne
  |ret=>
   show Leaves _ _ _ _ act.defers .returning w'
   rw[hh.defers]
   exact ret_at rfl rfl hfz hr hh
  |_=>exact hr.elim
 have hp0:∀ch act w',keepA (clX fz) act→PanW (clX fz) w ch w'→Qd (.panic ch) act w':=by
  rintro ch act w' _ ⟨_,_,_,_,_,_,hpn⟩
  exact hpn.elim
 refine td_next _ [yp_qparserOf] [] hq0 hp0 ?_
 simp only[↓eB,seval,go_sem,adv_fold,cS]
 refine td_next _ [yp_qparserOf] [] hq0 hp0 ?_
 cases h:pofB s with
 |true=>
  obtain⟨e1,e2⟩:=pof_t h
  have hr:gloQ s=(⟨[],[]⟩,(rxT s).2.1,(rxT s).2.2):=by unfold gloQ;rw[if_pos h]
  have h':((rxT s).2.2 != 0)=true:=h
  simp only[↓eB,seval,go_sem,adv_fold,cS,yr_qparserOf,ym_qparserOf,e1,e2]
  refine⟨hs,?_⟩
  refine td_next _ [yp_qparserOf] [] hq0 hp0 ?_
  simp only[↓eB,seval,go_sem,adv_fold,cS,h']
  try simp only[impB,impN]
  repeat' first|exact ck|with_reducible apply And.intro|intro _
  all_goals first|(rename_i h;first|exact oI h|exact nah h)|(rename_i _ h _ g;exact sL h g)|decide|omega|(refine ret_with [] ?_;simp only[↓eB,seval,go_sem,bne,yr_qGlobals,hr,Gl.d,zSqD,zGyD,Tryz.f12])
 |false=>
  obtain⟨e1,e2⟩:=pof_f h
  have hF:=glo_F s h
  simp only[↓eB,seval,go_sem,adv_fold,cS,yr_qparserOf,ym_qparserOf,e1,e2]
  refine⟨hs,?_⟩
  refine td_next _ [yp_qparserOf] [] hq0 hp0 ?_
  simp only[↓eB,seval,go_sem,adv_fold,cS]
  refine td_to (t:=sG [cN,cN] (p0 (rxT s).1 (s.length:Int))) (to_with [] ?_) ?_
  ·simp only[↓eB,seval,go_sem,z1,sG]
  intro a w1 hs1
  obtain⟨I,hn,hsl,hD⟩:=holds_defer hs1 (t:=17) rfl [(2,2),(3,3),(4,4),(5,5)] (by simp[sG,lkp]) [2,3,4,5,8] (by simp[sG,lkp]) (if (gloP s).2.b=true then some (pnF zGl (gloP s).2) else none)
  refine wp_defer rfl rfl rfl rfl rfl rfl (by rw[hn];decide) ?_
  have v2:a.tmps[2]?=some ((I 2).p 0 0):=hsl (2,2) (by simp)
  have v3:a.tmps[3]?=some ((I 3).p 0 0):=hsl (3,3) (by simp)
  have v4:a.tmps[4]?=some ((I 4).p 0 0):=hsl (4,4) (by simp)
  have v5:a.tmps[5]?=some ((I 5).p 0 0):=hsl (5,5) (by simp)
  have ev:(#[Operand.tmp 5,Operand.tmp 2,Operand.tmp 3,Operand.tmp 4].map a.eval) = #[(I 5).p 0 0,(I 2).p 0 0,(I 3).p 0 0,(I 4).p 0 0]:=by simp[Act.eval,v2,v3,v4,v5]
  have hdf:a.defers=[]:=hs1.defers
  rw[ev,hdf]
  refine(?_:TriD (P:=Tryz.prog) (xF zGl 35 fz I (gloP s).2) w 26 _ (sG [cN,cN] (p0 (rxT s).1 (s.length:Int))) Qd) _ _ (hD _ _)
  clear hD hs1 ev v2 v3 v4 v5 hsl hn hdf hq0 hp0
  have nS:=(p0_okQ s (s.length:Int))
  have hq1:∀e s' act w',e≠Exit.normal→(e= .ret∧(gloP s).2.b=false∧RetP Tryz.prog (xF zGl 35 fz I (gloP s).2) Tryz.f12.results.toList (RESL (yr_qGlobals s)) s')→Holds (xF zGl 35 fz I (gloP s).2) w 26 s' act w'→Qd e act w':=by
   rintro e s' act w' _ ⟨rfl,_,hr⟩ hh
   rw[← hQd]
   show Leaves _ _ _ _ act.defers .returning w'
   rw[hh.defers]
   obtain⟨x,hx1,hx2⟩:=ret_at rfl rfl hfz hr hh
   refine leaves_cons (f:=35) (args:=#[(I 5).p 0 0,(I 2).p 0 0,(I 3).p 0 0,(I 4).p 0 0]) (by simp) (inv_Globals _ _) ?_
   refine(idle_Globals _ rfl _).mono ?_
   rintro e u' w2 ⟨rfl,rfl,rfl⟩
   exact⟨x,hx1,hx2⟩
  have hp1:∀ch act w',keepA (xF zGl 35 fz I (gloP s).2) act→PanW (xF zGl 35 fz I (gloP s).2) w ch w'→Qd (.panic ch) act w':=by
   rintro ch act w' ⟨hd,hk⟩ ⟨⟨t,y,rfl⟩,I',lab,fz',H',hA,hpn⟩
   rw[← hQd]
   have hbt:(gloP s).2.b=true:=by
    cases hb:(gloP s).2.b with
    |true=>rfl
    |false=>rw[xF_pn,hb]at hpn;exact hpn.elim
   rw[xF_pn,hbt,if_pos rfl]at hpn
   have hI:∀k∈[2,3,4,5,8],I' k=I k:=fun k hk2=>(hA.fix (k,I k) (List.mem_map.2 ⟨k,hk2,rfl⟩)).2
   have hB:=at_pn hA (pnF zGl (gloP s).2) hpn (by
    intro p hp r hr c hc k hk2
    simp only[pnF,List.mem_cons,List.not_mem_nil,or_false]at hp
    rcases hp with rfl|rfl|rfl|rfl|rfl<;>simp only[List.mem_cons,List.not_mem_nil,or_false,List.map_cons,List.map_nil]at hr<;>subst hr
    ·simp only[List.mem_cons,List.not_mem_nil,or_false]at hc;subst hc
     simp only[C.names,List.mem_singleton]at hk2;subst hk2;simp[pnF]
    ·rw[prx_nm _ c hc]at hk2;cases hk2
    ·simp only[zGl,List.map_cons,List.map_nil,List.mem_cons,List.not_mem_nil,or_false]at hc
     rcases hc with rfl|rfl<;>cases hk2
    ·simp only[List.mem_cons,List.not_mem_nil,or_false]at hc;subst hc;cases hk2
    ·simp only[List.mem_cons,List.not_mem_nil,or_false]at hc;subst hc;cases hk2) (by
    intro p hp
    obtain⟨k,hk2,rfl⟩:=List.mem_map.1 hp
    revert hk2;show k∈[2,3,4,5,8]→k∈[5,8,2,3,4]
    simp only[List.mem_cons,List.not_mem_nil,or_false];omega)
   have hC:=catch_Globals (gloP s).2 hB (by
    intro q hq
    obtain⟨k,hk2,rfl⟩:=List.mem_map.1 hq
    exact hk2) t y
   rw[hI 5 (by simp),hI 2 (by simp),hI 3 (by simp),hI 4 (by simp)]at hC
   show Leaves _ _ _ _ act.defers _ w'
   rw[hd]
   refine leaves_cons (f:=35) (args:=#[(I 5).p 0 0,(I 2).p 0 0,(I 3).p 0 0,(I 4).p 0 0]) (by simp) (inv_Globals _ _) ?_
   refine hC.mono ?_
   rintro e u' w2 ⟨rfl,rfl,I2,lab2,fz2,hA2⟩
   have hI2:∀k∈[2,3,4,5,8],I2 k=I k:=fun k hk2=>(hA2.fix (k,I k) (List.mem_map.2 ⟨k,hk2,rfl⟩)).2
   have hr:gloQ s=(⟨[],[]⟩,(gloP s).2.at',(gloP s).2.e):=by
    rw[hF,if_pos]
    have:(!((gloP s).2.e==0))=true:=hbt
    exact this
   obtain⟨x,hx1,hx2⟩:=results_at (P:=Tryz.prog) (fn:=Tryz.f12) (s:=⟨[(2,true,.one (.p 2 0 0)),(3,true,.one (.p 3 0 0)),(4,true,.one (.p 4 0 0))],[(2,.vec 0 zGl [[cN,cN]]),(3,.vec 0 z1 [[.v (.int .i64 (gloP s).2.at')]]),(4,.vec 0 z1 [[.v (.int .i64 (gloP s).2.e)]]),(5,.dead),(8,.dead)]⟩) (tmps:=act.tmps) (vs:=[.agg [cN,cN],.one (.v (.int .i64 (gloP s).2.at')),.one (.v (.int .i64 (gloP s).2.e))]) hA2 (by
    intro j g v hj
    simp only[lkp]at hj
    repeat' split at hj
    all_goals first
     |cases hj;done
     |(
      rename_i e
      subst e
      simp only[Option.some.injEq,Prod.mk.injEq]at hj
      obtain⟨rfl,rfl⟩:=hj
      refine⟨rfl,_,rfl,?_⟩
      first|(rw[hI2 2 (by decide)];exact hk (2,(I 2).p 0 0) (by simp[xF]))|(rw[hI2 3 (by decide)];exact hk (3,(I 3).p 0 0) (by simp[xF]))|(rw[hI2 4 (by decide)];exact hk (4,(I 4).p 0 0) (by simp[xF])))) (by
    simp only[↓eB,seval,go_sem,Tryz.f12,z1]) rfl
   refine⟨x,hx1,dpost_of rfl rfl hfz hA2 hx2 rfl ?_⟩
   rw[show yr_qGlobals s= .tup [.inr (⟨[],[]⟩:Gl).d,.inl (.v (.int .i64 (gloP s).2.at')),.inl (.v (.int .i64 (gloP s).2.e))] by unfold yr_qGlobals;rw[hr]]
   simp only[↓eB,seval,go_sem,Gl.d,zSqD,zGyD]
  refine td_next _ [yp_qglobal,yp_qended] [] hq1 hp1 ?_
  simp only[↓eB,seval,go_sem,adv_fold,cS,sG,z1,xF_F,mGl_d']
  refine loop_ok (Y:=Nat×Gl×Pr) (fun y=>okQ y.2.2∧(y.2.2.l.length:Int)≤y.2.2.i+(y.1:Int)∧((y.2.1.c.length+y.2.1.a.length:Nat):Int)≤y.2.2.i∧glL y.1 y.2.1 y.2.2=gloP s)
   (fun y=>sG y.2.1.c' y.2.2)
   (fun y=>y.1) ((rxT s).1.length,⟨[],[]⟩,p0 (rxT s).1 (s.length:Int)) ⟨nS,by show ((rxT s).1.length:Int)≤0+_;omega,by show ((0:Nat):Int)≤0;decide,rfl⟩ ?_ ?_
  ·refine to_with [.nilc 2 0 0 zSq,.nilc 2 0 1 zGy] ?_;simp only[↓eB,seval,go_sem,xF_F,sG,z1]
  ·rintro ⟨k,g,q⟩ ⟨h1,h2,h3,h4⟩
   refine vc_ok [yp_qglobal,yp_qended] [] _ _ _ ?_
   dsimp only at h1 h2 h3 h4
   have hI:=h1.i
   cases hE:endB q with
   |true=>
    have hg:(g,q)=gloP s:=by
     rw[← h4];cases k with
     |zero=>rfl
     |succ k=>simp[glL,hE]
    simp only[↓eB,seval,go_sem,adv_fold,cS,sG,hE,z1,xF_F,mGl_d']
    refine⟨hI,td_to (t:=sG g.d q) (to_with [.unr 2 0 0 1000,.fz 1000,.unr 2 0 1 1001,.fz 1001] ?_) ?_⟩
    ·simp only[↓eB,seval,go_sem,xF_F,sG,Gl.d,z1,zSqD,zGyD,rowsQ.ds,rowsY.ds,rowsQ.fz,rowsY.fz,rowsQ.fn,rowsY.fn,rowsQ.mv,rowsY.mv,q_all,y_all]
    have hq:=h1
    have hb2:(gloP s).2.b=false:=by rw[← hg];exact b_t hq.e'
    have hr:gloQ s=(g,0,0):=by
     rw[hF,← hg,if_neg]
     simp[hq.e]
    refine td_last _ [] [] (fun e s' act w' hq hh=>hq1 e s' act w' (by rintro rfl;cases hq.1) hq hh) hp1 ?_
    simp only[↓eB,seval,go_sem,adv_fold,cS,sG,Gl.d,z1,xF_F,mGl_d']
    try simp only[impB,impN]
    repeat' first|exact ck|with_reducible apply And.intro|intro _
    all_goals first|exact hb2|exact rfl|(rename_i h;first|exact oI h|exact nah h)|(rename_i _ h _ g;exact sL h g)|decide|omega|(refine ret_with [] ?_;simp only[↓eB,seval,go_sem,bne,yr_qGlobals,hr,Gl.d,Tryz.f12])
   |false=>
    have hlt:=end_f h1.i hE
    obtain⟨k',rfl⟩:∃k',k=k'+1:=⟨k-1,by omega⟩
    have h5:glL k' (glG g q) (glP g.n q)=gloP s:=by rw[← h4];simp[glL,hE,h1.e]
    have hl1:g.c.length≤5000:=by have:=h1.ok.2.1;have:=h1.ok.2.2.1;omega
    have hl2:g.a.length≤5000:=by have:=h1.ok.2.1;have:=h1.ok.2.2.1;omega
    cases e1:((glP g.n q).e==0) with
    |false=>
     have hN:(gloP s).2=glP g.n q:=by rw[← h5,glL_f _ _ e1]
     obtain⟨o1,o2,g1,g2⟩:=ps_w (Ps.refl (glP g.n q)) e1
     simp only[↓eB,seval,go_sem,adv_fold,cS,sG,hE,hN,g1,g2,pnF,z1,xF_F,mGl_d']
     try simp only[impB,impN]
     repeat' first|exact ck|with_reducible apply And.intro|intro _
     all_goals first|exact hI|exact h1|exact hl1|exact hl2|(rename_i h;first|exact oI h|exact nah h)|(rename_i _ h _ g;exact sL h g)|decide|omega|(refine ret_with [] ?_;simp only[↓eB,seval,go_sem,bne])
    |true=>
     obtain⟨g1,g2⟩:=go_w e1
     obtain⟨r1,r2,r3⟩:=gl_ok h1 g.n (by simpa using e1)
     have r4:=gG_len g q
     simp only[↓eB,seval,go_sem,adv_fold,cS,sG,hE,g1,g2,z1,xF_F,mGl_d']
     try simp only[impB,impN]
     repeat' (first|exact ck|with_reducible apply And.intro)
     all_goals try first|exact hI|exact h1|exact hl1|exact hl2|decide|omega
     refine⟨(k',glG g q,glP g.n q),⟨r1,?_,?_,h5⟩,Nat.lt_succ_self _,to_with [] ?_⟩
     ·dsimp only;rw[r3];omega
     ·dsimp only;omega
     ·simp only[↓eB,seval,go_sem,xF_F,sG,z1]
end Go.Proofs.YtlaggppdgoknjaaGreatDoor
