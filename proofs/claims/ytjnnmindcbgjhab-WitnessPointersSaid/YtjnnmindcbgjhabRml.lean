/- A run's outermost call, walked. No conditions but those in each statement. -/
import Derived.Test.YtjnnmindcbgjhabRmj
import Derived.Test.YtjnnmindcbgjhabRme
import Derived.Test.YtjnnmindcbgjhabSy42
set_option linter.unusedVariables false
set_option linter.unusedSimpArgs false
namespace Go.Proofs.Ytjnnmindcbgjhab
open Go Go.Sy Go.RowKit
def rnA (n:Nat) (P:Pg) (f:List UInt8) (va:List Va) (m:Ms):Bool×Int×Ms:=match P.fi f with
 |none=>(true,0,m.brk f (-1) 4)
 |some i=>
  let g:=P.fs.getD i.toNat ⟨[],[],[],[]⟩
  if fitB g.ps va=false then (true,0,m.brk f (-1) 4)
  else if poB P va=false then (true,0,m.brk f (-1) 4)
  else calF (stF n) P g va m
def rnZ (r:Bool×Int×Ms):Ms:=if r.1=true then catM r.2.2 else { r.2.2 with e:=0,v:=r.2.1,f:=[],al:=0,k:=0 }
noncomputable abbrev ya_mRun:ArgM ((Pg×Ms)×List UInt8×List Va×Unit):=amP mMc (amD cStr (amD cVas am0))
abbrev Cd_rn (N n:Nat) (p:(Pg×Ms)×List UInt8×List Va×Unit):Prop:=okMs N n ⟨[],0,p.1.1,p.1.2,[]⟩∧p.2.2.1.length≤5000∧n≤1000000000
abbrev M_rn (n:Nat) (p:(Pg×Ms)×List UInt8×List Va×Unit):List (Option MV):=[some (mcW p.1.1 (rnZ (rnA n p.1.1 p.2.1 p.2.2.1 p.1.2)))]
abbrev sRn (P:Pg) (m:Ms) (f:List UInt8) (va:List Va):St:=⟨[(1,true,.one (.v (.string (bs f)))),(2,true,.one (.d (.sl zVaD (va.map Va.r)))),(3,true,.one (.p 3 0 0))],[(0,.vec 0 zMc [mcC P m]),(3,.vec 0 [.v (.bool false)] [[.p 0 0 0]])]⟩
def xR (M fz:Nat→Prop) (I:Nm) (P:Pg) (r:Bool×Int×Ms):Ctx:=⟨M,fz,[0,3].map fun k=>(k,I k),(if r.1=true then some (pnM P r.2.2) else none),[{ target:=.fn (.func 45) #[(I 3).p 0 0],args:=#[] }],[]⟩
theorem xR_pn (M fz:Nat→Prop) (I:Nm) (P:Pg) (r:Bool×Int×Ms):(xR M fz I P r).pn=if r.1=true then some (pnM P r.2.2) else none:=rfl
theorem xR_kp (M fz:Nat→Prop) (I:Nm) (P:Pg) (r:Bool×Int×Ms):(xR M fz I P r).kp=[]:=rfl
theorem inv_run (cap:Array Value) (w:World):(invoke (.fn (.func 45) cap) #[]).run Try.prog w= .ok (.enter 45 cap) w:=by
 have:=Try.call45 cap w
 simp[go_sem,this]
attribute [local go_sem] mMc_d' mMc_e mMc_z mcC mcW ms_eta pg_eta pnOf_f pnOf_t wkR_me
set_option maxRecDepth 20000 in
set_option maxHeartbeats 32000000 in
theorem y_mRun (N n:Nat):CallsM Try.prog 36 (ya_mRun.args 0) ya_mRun.mem (Cd_rn N n) (fun _=>.tup []) (M_rn n):=by
 rintro ⟨⟨P,m⟩,f,va,_u⟩ w M I lab fz xs ⟨hM,hva,hn9⟩ hA hl hx
 dsimp only at hM hva
 refine calls_tdM Try.func36 rfl (ya_mRun.mem ⟨(P,m),f,va,_u⟩) w M I lab fz (ya_mRun.args 0 ⟨(P,m),f,va,_u⟩) (M_rn n ⟨(P,m),f,va,_u⟩) (.tup []) xs hA hl hx (fun v hv k hk=>by have:=ya_mRun.an 0 ⟨(P,m),f,va,_u⟩ v hv k hk;omega) (Nat.le_of_ble_eq_true rfl) ?_
 clear hx hl hA xs
 have hm1:(ya_mRun.mem ⟨(P,m),f,va,_u⟩).length=1:=rfl
 rw[hm1]
 obtain⟨r,hr⟩:∃r,rnA n P f va m=r:=⟨_,rfl⟩
 have hMr:M_rn n ⟨(P,m),f,va,_u⟩=[some (mcW P (rnZ r))]:=by rw[← hr]
 rw[hMr]
 generalize hQd:bodyPostD Try.prog Try.f36 (MPost w M fz I 1 [some (mcW P (rnZ r))] (.tup []))=Qd
 simp only[Try.f36]
 have hq0:∀e s' act w',e≠Exit.normal→False→Holds (mX M fz I 1) w 60 s' act w'→Qd e act w':=fun _ _ _ _ _ h=>h.elim
 have hp0:∀ch act w',keepA (mX M fz I 1) act→PanW (mX M fz I 1) w ch w'→Qd (.panic ch) act w':=by
  rintro ch act w' _ ⟨_,_,_,_,_,_,hpn⟩
  exact hpn.elim
 refine td_next (fun _ _=>False) [] [] hq0 hp0 ?_
 simp only[↓eB,seval,go_sem,cVas_e]
 refine td_to (t:=sRn P m f va) (to_with [] ?_) ?_
 ·simp only[↓eB,seval,go_sem,sRn]
 intro a w1 hs1
 obtain⟨J,hn,hfx,hsl,hD⟩:=holds_deferF hs1 (t:=9) rfl [(3,3)] (by simp[sRn,lkp]) [0,3] (by simp[sRn,lkp]) (if r.1=true then some (pnM P r.2.2) else none)
 refine wp_defer rfl rfl rfl rfl rfl rfl (by rw[hn];decide) ?_
 have v3:a.tmps[3]?=some ((J 3).p 0 0):=hsl (3,3) (by simp)
 have ev:(#[Operand.tmp 3].map a.eval) = #[(J 3).p 0 0]:=by simp[Act.eval,v3]
 have hdf:a.defers=[]:=hs1.defers
 have j0:J 0=I 0:=hfx (0,I 0) (by simp[memF])
 rw[ev,hdf]
 refine(?_:TriD (P:=Try.prog) (xR M fz J P r) w 60 _ (sRn P m f va) Qd) _ _ (hD _ _)
 clear hD hs1 ev v3 hsl hn hdf hq0 hp0 hfx
 have hq1:∀e s' act w',(e=Exit.normal∧r.1=false∧RetP Try.prog (xR M fz J P r) Try.f36.results.toList (RESM (.tup []) [some (mcW P (rnZ r))]) s')→Holds (xR M fz J P r) w 60 s' act w'→Qd e act w':=by
  rintro e s' act w' ⟨rfl,_,hret⟩ hh
  rw[← hQd]
  show Leaves _ _ _ _ act.defers .returning w'
  rw[hh.defers]
  obtain⟨x,hx1,y,I',lab',fz',_,hAt,_⟩:=ret_atM (X:=xR M fz J P r) (M:=M) (fz0:=fz) (I0:=I) (m:=1) rfl rfl (by
   intro p hp
   simp only[memF,List.mem_singleton]at hp
   subst hp
   show (0,I 0)∈[(0,J 0),(3,J 3)]
   rw[j0];simp) (by simp) hret hh
  refine leaves_cons (f:=45) (args:=#[(J 3).p 0 0]) (by simp) (inv_run _ _) ?_
  refine(idle_run hAt _).mono ?_
  rintro e u' w2 ⟨rfl,rfl,I2,lab2,fz2,hA2⟩
  exact⟨.tuple #[],by simp[results,Try.results36,go_sem],.tuple #[],I2,lab2,fz2,rfl,hA2,⟨#[],rfl,rfl,by simp⟩⟩
 have hp1:∀ch act w',keepA (xR M fz J P r) act→PanW (xR M fz J P r) w ch w'→Qd (.panic ch) act w':=by
  rintro ch act w' ⟨hd,_⟩ ⟨⟨t,y,rfl⟩,I',lab,fz',H',hA,hpn⟩
  rw[← hQd]
  have hbt:r.1=true:=by
   cases hb:r.1 with
   |true=>rfl
   |false=>rw[xR_pn,hb]at hpn;exact hpn.elim
  rw[xR_pn,hbt,if_pos rfl]at hpn
  have hI3:I' 3=J 3:=(hA.fix (3,J 3) (by simp[xR])).2
  have hB:=at_pn hA (pnM P r.2.2) hpn (by
   intro p hp q hq c hc k hk2
   simp only[pnM,List.mem_cons,List.not_mem_nil,or_false]at hp
   rcases hp with rfl|rfl<;>simp only[List.mem_cons,List.not_mem_nil,or_false]at hq<;>subst hq
   ·simp only[List.mem_cons,List.not_mem_nil,or_false]at hc;subst hc
    simp only[C.names,List.mem_singleton]at hk2;subst hk2;simp[pnM]
   ·rw[mcC_nm P r.2.2 c hc]at hk2;cases hk2) (by
   intro p hp
   simp only[xR,List.map_cons,List.map_nil,List.mem_cons,List.not_mem_nil,or_false]at hp
   rcases hp with rfl|rfl<;>simp[pnM])
  have hC:=catch_run P r.2.2 hB (by
   intro q hq
   simp only[xR,List.map_cons,List.map_nil,List.mem_cons,List.not_mem_nil,or_false]at hq
   rcases hq with rfl|rfl<;>simp) t y
  rw[hI3]at hC
  show Leaves _ _ _ _ act.defers _ w'
  rw[hd]
  refine leaves_cons (f:=45) (args:=#[(J 3).p 0 0]) (by simp) (inv_run _ _) ?_
  refine hC.mono ?_
  rintro e u' w2 ⟨rfl,rfl,I2,lab2,fz2,hA2⟩
  have hz:rnZ r=catM r.2.2:=by unfold rnZ;rw[hbt];rfl
  refine⟨.tuple #[],by simp[results,Try.results36,go_sem],.tuple #[],I2,lab2,fz2,rfl,?_,⟨#[],rfl,rfl,by simp⟩⟩
  refine at_sub (X:=mX M fz I 1) (at_less (X:=xR M fz J P r) rfl rfl (by
   intro p hp
   simp only[memF,List.mem_singleton]at hp
   subst hp
   show (0,I 0)∈[(0,J 0),(3,J 3)]
   rw[j0];simp) hA2) ?_ ?_
  ·intro q hq
   simp only[memO,chO,mcW,List.mem_singleton]at hq
   subst hq
   rw[hz]
   refine⟨⟨rfl,rfl,.inl rfl⟩,?_⟩
   intro k hk
   simp only[chNames,List.flatMap_cons,List.flatMap_nil,List.append_nil]at hk
   obtain⟨c,hc,hk⟩:=List.mem_flatMap.1 hk
   rw[mcC_nm P _ c hc]at hk;cases hk
  ·intro p hp
   simp only[memF,List.mem_singleton]at hp
   subst hp;rfl
 refine td_last _ [yp_mFail,yp_fits,yp_mPoint,yg_mCall N n (y_mCall N n (y_fBlock N n (y_fStmt N n)))] [] hq1 hp1 ?_
 clear hq1 hp1 hQd
 cases hf:P.fi f with
 |none=>
  have hr2:r=(true,0,m.brk f (-1) 4):=by rw[← hr];unfold rnA;rw[hf]
  subst hr2
  rcases fn_0 P.fs with h0|⟨n0,p0,l0,b0,h0⟩
  ·simp only[↓eB,seval,go_sem,mp_ci,mp_ai,mp_fi,mp_vs,Va.c,Option.isSome_some,Option.isSome_none,yp_mFail,yb_mFail,yv_mFail,yp_fits,yr_fits,yp_mPoint,yr_mPoint,ym_mPoint,yg_mCall,yr_mCall,yb_mCall,yv_mCall,cFn_e,cFn_d,cVas_e,cVas_d,cVq_e,cVq_d,rVa_e,rVa_z,zVaD_ln,zVr_ln2,decL_va,cSl,Fn.c,hf,h0,cVq_0,zFn_d,xR_pn,xR_kp,pnM,sRn]
  ·simp only[↓eB,seval,go_sem,mp_ci,mp_ai,mp_fi,mp_vs,Va.c,Option.isSome_some,Option.isSome_none,yp_mFail,yb_mFail,yv_mFail,yp_fits,yr_fits,yp_mPoint,yr_mPoint,ym_mPoint,yg_mCall,yr_mCall,yb_mCall,yv_mCall,cFn_e,cFn_d,cVas_e,cVas_d,cVq_e,cVq_d,rVa_e,rVa_z,zVaD_ln,zVr_ln2,decL_va,cSl,Fn.c,hf,h0,cVq_0,zFn_d,xR_pn,xR_kp,pnM,sRn]
 |some i=>
  have hi2:=Pg.fi_lt hf
  have hg:=fn_z hi2
  have hgm:P.fs.getD i.toNat ⟨[],[],[],[]⟩∈P.fs:=by
   have:i.toNat<P.fs.length:=by omega
   rw[List.getD,List.getElem?_eq_getElem this];exact List.getElem_mem this
  obtain⟨gF,gB⟩:=hM.p.f _ hgm
  obtain⟨g,hgE⟩:∃g,P.fs.getD i.toNat ⟨[],[],[],[]⟩=g:=⟨_,rfl⟩
  rw[hgE]at hg gF gB
  obtain⟨gn,gps,gls,gb⟩:=g
  have gp5:gps.length≤5000:=gF.1
  cases hft:fitB gps va with
  |false=>
   have hr2:r=(true,0,m.brk f (-1) 4):=by rw[← hr];unfold rnA;rw[hf];dsimp only;rw[hgE];exact if_pos hft
   subst hr2
   simp only[↓eB,seval,go_sem,mp_ci,mp_ai,mp_fi,mp_vs,Va.c,Option.isSome_some,Option.isSome_none,yp_mFail,yb_mFail,yv_mFail,yp_fits,yr_fits,yp_mPoint,yr_mPoint,ym_mPoint,yg_mCall,yr_mCall,yb_mCall,yv_mCall,cFn_e,cFn_d,cVas_e,cVas_d,cVq_e,cVq_d,rVa_e,rVa_z,zVaD_ln,zVr_ln2,decL_va,cSl,Fn.c,hf,hg,hft,xR_pn,xR_kp,pnM,sRn]
   exact⟨⟨hi2.1,hi2.2,rfl⟩,⟨gp5,hva⟩⟩
  |true=>
  cases hpo:poB P va with
  |false=>
   have hr2:r=(true,0,m.brk f (-1) 4):=by rw[← hr];unfold rnA;rw[hf];dsimp only;rw[hgE,if_neg (by rw[show fitB gps va=true from hft];decide)];exact if_pos hpo
   subst hr2
   simp only[↓eB,seval,go_sem,mp_ci,mp_ai,mp_fi,mp_vs,Va.c,Option.isSome_some,Option.isSome_none,yp_mFail,yb_mFail,yv_mFail,yp_fits,yr_fits,yp_mPoint,yr_mPoint,ym_mPoint,yg_mCall,yr_mCall,yb_mCall,yv_mCall,cFn_e,cFn_d,cVas_e,cVas_d,cVq_e,cVq_d,rVa_e,rVa_z,zVaD_ln,zVr_ln2,decL_va,cSl,Fn.c,hf,hg,hft,hpo,xR_pn,xR_kp,pnM,sRn]
   exact⟨⟨hi2.1,hi2.2,rfl⟩,⟨gp5,hva⟩,hva⟩
  |true=>
   have hrc:calF (stF n) P ⟨gn,gps,gls,gb⟩ va m=r:=by rw[← hr];unfold rnA;rw[hf];dsimp only;rw[hgE,if_neg (by rw[show fitB gps va=true from hft];decide),if_neg (by rw[hpo];decide)]
   have hcl:yc_mCall N n (P,m) ⟨gn,gps,gls,gb⟩ va:=⟨hM,⟨gF,gB⟩,hft,hn9⟩
   obtain⟨rb,rv,rm⟩:=r
   cases rb with
   |true=>
    simp only[↓eB,seval,go_sem,mp_ci,mp_ai,mp_fi,mp_vs,Va.c,Option.isSome_some,Option.isSome_none,yp_mFail,yb_mFail,yv_mFail,yp_fits,yr_fits,yp_mPoint,yr_mPoint,ym_mPoint,yg_mCall,yr_mCall,yb_mCall,yv_mCall,cFn_e,cFn_d,cVas_e,cVas_d,cVq_e,cVq_d,rVa_e,rVa_z,zVaD_ln,zVr_ln2,decL_va,cSl,Fn.c,hf,hg,hft,hpo,hrc,xR_pn,xR_kp,pnM,sRn]
    exact⟨⟨hi2.1,hi2.2,rfl⟩,⟨gp5,hva⟩,hva,⟨hi2.1,hi2.2,rfl⟩,hcl,chk_ok (by kernel_rfl)⟩
   |false=>
    simp only[↓eB,seval,go_sem,mp_ci,mp_ai,mp_fi,mp_vs,Va.c,Option.isSome_some,Option.isSome_none,yp_mFail,yb_mFail,yv_mFail,yp_fits,yr_fits,yp_mPoint,yr_mPoint,ym_mPoint,yg_mCall,yr_mCall,yb_mCall,yv_mCall,cFn_e,cFn_d,cVas_e,cVas_d,cVq_e,cVq_d,rVa_e,rVa_z,zVaD_ln,zVr_ln2,decL_va,cSl,Fn.c,hf,hg,hft,hpo,hrc,xR_pn,xR_kp,pnM,sRn]
    refine⟨⟨hi2.1,hi2.2,rfl⟩,⟨gp5,hva⟩,hva,⟨hi2.1,hi2.2,rfl⟩,hcl,chk_ok (by kernel_rfl),?_⟩
    have hz:rnZ (false,rv,rm)=⟨rm.fuel,rm.deep,rm.cs,rm.ar,0,rv,[],0,0⟩:=rfl
    rw[hz]
    refine ret_with [] ?_;simp only[↓eB,seval,go_sem,bne,e_RESM,Try.f36,pnM]
end Go.Proofs.Ytjnnmindcbgjhab
namespace Go.Sy
open Go Go.RowKit
def simB (es:List (List C)):Prop:=∀r∈es,∀c∈r,c.names=[]∧ovC (some c)=false
theorem simB_one {r:List C} (h:∀c∈r,c.names=[]∧ovC (some c)=false):simB [r]:=by
 intro r' hr;rw[List.mem_singleton.1 hr];exact h
theorem simB_ov {es:List (List C)} (h:simB es) {p:List (Nat×Nat)} {z:List C} (hi:inP p z es):ovP p z es=false:=by
 have key:∀(i j:Nat) (c:C),i<es.length→(es.getD i z)[j]?=some c→ovC (some c)=false:=by
  intro i j c hi hc
  have hg:es.getD i z=es[i]:=by simp[List.getD,hi]
  rw[hg]at hc
  exact(h _ (List.getElem_mem hi) c (List.mem_of_getElem? hc)).2
 match p,hi with
 |[(i,j)],hi=>
  simp only[inP]at hi
  simp only[ovP,getP]
  cases hc:(es.getD i z)[j]? with
  |none=>rfl
  |some c=>exact key i j c hi hc
 |(i,j)::q::r,hi=>
  simp only[inP]at hi
  obtain⟨h1,h2⟩:=hi
  cases hc:(es.getD i z)[j]? with
  |none=>rw[hc]at h2;exact h2.elim
  |some c=>
   have:=key i j c h1 hc
   rw[hc]at h2
   cases c<;>first|exact h2.elim|(simp[ovC]at this)
def keepsU (H:Hp) (u:List (Nat×Ch)):Prop:=∀k ch,H k=some ch→updH H u k=some ch∨∃u0 u1 z z1 es,ch= .vec u0 z es∧updH H u k=some (.vec u1 z1 es)∧simB es∧z.length=z1.length∧zT z=none
theorem vec_zz {h:Heap} {fz:Nat→Prop} {lab:Lab} {I:Nm} {π:List Nat} {z z1:List C} {es:List (List C)} {x:Value} (hl:z.length=z1.length) (hz:zT z=none) (r:VecAt h fz lab I π z1 es x):VecAt h fz lab I π z es x:=by
 rcases r with r|⟨b,off,cap,arr,T,h1,h2,h3,h4,h5,h6⟩
 ·exact .inl r
 ·refine .inr ⟨b,off,cap,arr,T,h1,h2,h3,⟨by rw[hl];exact h4.1,zOK_none hz⟩,h5,?_⟩
  rw[hl];exact h6
theorem post_ro {X:Ctx} {w0 w w':World} {I:Nm} {lab:Lab} {fz:Nat→Prop} {H:Hp} {v:SV} {u:List (Nat×Ch)} {x:Value} (hA:AtW X w0 I lab fz H w) (hk:keepsU H u) (hv:noVw v=true) (h:Post X w0 w I lab fz H (some v) u x w'):Post X w0 w I lab fz H (some v) [] x w':=by
 obtain⟨I',lab',fz',h1,h2,h3⟩:=h
 refine⟨I',lab',fz',⟨fun k ch hc=>?_,fun k ch hc=>hA.wf k ch hc,h1.own,h1.fzl,h1.fzo,h1.kept,fun p hp=>⟨(hA.fix p hp).1,(h1.fix p hp).2⟩⟩,fun s hs=>?_,⟨h3.z,h3.n,fun k u0 p y hs hw=>?_⟩⟩
 ·rcases hk k ch hc with e|⟨u0,u1,z,z1,es,rfl,e,_,hl,hz⟩
  ·exact h1.h k ch e
  ·obtain⟨q1,q2,q3⟩:=h1.h k _ e
   exact⟨q1,q2.trans hl.symm,vec_zz hl hz q3⟩
 ·simp only[Option.some.injEq]at hs
  subst hs
  exact sd_noVw hv (h2 _ rfl)
 ·have hw':=h3.w k u0 p y hs hw
  refine⟨hw.1,fun u' z es hc=>?_⟩
  rcases hk k _ hc with e|⟨u0',u1,z',z1,es',e0,e,hsim,_,_⟩
  ·exact hw'.2 u' z es e
  ·simp only[Ch.vec.injEq]at e0
   obtain⟨rfl,rfl,rfl⟩:=e0
   exact⟨(hw.2 _ _ _ hc).1,fun _ hi ho=>by rw[simB_ov hsim hi]at ho;cases ho⟩
section
variable {P:Program} {X:Ctx} {w0:World}
def roSpec (s:Sy.Spec P X w0) (hro:∀t args H c e fp,s.fn t args H=some (c,e,fp)→c→H t=none→keepsU H e.upd∧noVw e.val=true∧e.val.names=[]):Sy.Spec P X w0 where
 f:=s.f
 call:=s.call
 fn t args H:=match s.fn t args H with
  |some (c,e,fp)=>some (c,⟨e.val,[]⟩,fp)
  |none=>none
 ok w I lab fz H t args xs c e fp hA ht h hc hd hl hx:=by
  split at h
  ·rename_i c' e' fp' hs
   simp only[Option.some.injEq,Prod.mk.injEq]at h
   obtain⟨rfl,rfl,rfl⟩:=h
   obtain⟨k1,k2,k3⟩:=hro _ _ _ _ _ _ hs hc ht
   refine(s.ok w I lab fz H t args xs _ _ _ hA ht hs hc hd hl hx).mono ?_
   rintro en w' (⟨x,e1,hp⟩|hp)
   ·exact .inl ⟨x,e1,post_ro hA k1 k2 hp⟩
   ·exact .inr hp
  ·cases h
 dom t args H c e fp ht hc h hd:=by
  split at h
  ·rename_i c' e' fp' hs
   simp only[Option.some.injEq,Prod.mk.injEq]at h
   obtain⟨rfl,rfl,rfl⟩:=h
   obtain⟨k1,k2,k3⟩:=hro _ _ _ _ _ _ hs hc ht
   exact⟨by rw[k3];intro k hk;exact(List.not_mem_nil hk).elim,fun p hp=>(List.not_mem_nil hp).elim⟩
  ·cases h
 loc t args H H' c e fp h hf:=by
  split at h
  ·rename_i c' e' fp' hs
   simp only[Option.some.injEq,Prod.mk.injEq]at h
   obtain⟨rfl,rfl,rfl⟩:=h
   rw[s.loc _ _ _ H' _ _ _ hs hf]
  ·cases h
end
end Go.Sy
