/- The document's reading of globals, for the machine's programs; that are written one after the other. No conditions but those in each statement. -/
import Derived.Test.YtjnnmindcbgjhabPg1
import Derived.Test.YtjnnmindcbgjhabPa9
import Derived.Test.YtjnnmindcbgjhabRm2
set_option linter.unusedVariables false
set_option linter.unusedSimpArgs false
namespace Go.Proofs.Ytjnnmindcbgjhab
open Go Go.Sy Go.RowKit
def Gl.cc (g:Gl):List C:=[.d (.sl zSqD (g.c.map cSd)),.d (.sl zGyD (g.a.map Gy.r))]
def sR1 (s:List UInt8):List C:=[.v (.string (bs s))]
theorem rowsS1:RowsD sR1 cSd 1:=by
 refine⟨fun a c hc=>?_,fun a c hc=>?_,fun a=>rfl,fun a=>rfl⟩
 ·simp only[sR1,List.mem_singleton]at hc;subst hc;rfl
 ·simp only[sR1,List.mem_singleton]at hc;subst hc;rfl
inductive Gi where
 |c (x:List UInt8)
 |a (x t:List UInt8)
def celW:List UInt8:=[99,101,108,108]
def arrW:List UInt8:=[97,114,114,97,121]
def Gi.tk:Gi→List Kt
 | .c x=>[(0,celW),(0,x),(2,[59])]
 | .a x t=>[(0,arrW),(0,x),(2,[91]),(1,t),(2,[93]),(2,[59])]
def Gi.ok:Gi→Prop
 | .c x=>wordB x=false
 | .a x t=>wordB x=false∧smallB t∧0<numW t 0∧numW t 0≤1048576
def giK:List Gi→List Kt
 |[]=>[]
 |g::l=>g.tk++giK l
def giA (cs:List (List UInt8)) (as':List Gy):List Gi→Gl
 |[]=>⟨cs,as'⟩
 | .c x::l=>giA (cs++[x]) as' l
 | .a x t::l=>giA cs (as'++[⟨x,numW t 0⟩]) l
def giV (l:List Gi):Gl:=giA [] [] l
def Gy.cc (a:Gy):List C:=[.v (.string (bs a.s)),.v (.int .i64 a.n)]
def zSr:List C:=[.v (.string (bs []))]
def zGc:List C:=[.v (.string (bs [])),.v (.int .i64 0)]
theorem rowsGa:RowsD Gy.cc Gy.r 2:=by
 refine⟨fun a c hc=>?_,fun a c hc=>?_,fun a=>rfl,fun a=>rfl⟩
 ·simp only[Gy.cc,List.mem_cons,List.not_mem_nil,or_false]at hc;rcases hc with rfl|rfl<;>rfl
 ·simp only[Gy.cc,List.mem_cons,List.not_mem_nil,or_false]at hc;rcases hc with rfl|rfl<;>rfl
abbrev z2:List C:=[.v (.bool false),.v (.bool false)]
theorem Sfx.takY {p:Pr} {k:Int} {t:List UInt8} {ts:List Kt} (h:Sfx p ((k,t)::ts)) (hk:(k != 1)=true):Go.Proofs.Ytjnnmindcbgjhab.isT t p=true∧takP t p=Go.Proofs.Ytjnnmindcbgjhab.adv p:=by
 have e:Go.Proofs.Ytjnnmindcbgjhab.isT t p=true:=by rw[h.isT,hk];simp
 exact⟨e,takP_t e⟩
theorem Sfx.takN {p:Pr} {k:Int} {t u:List UInt8} {ts:List Kt} (h:Sfx p ((k,t)::ts)) (hu:(t==u)=false):Go.Proofs.Ytjnnmindcbgjhab.isT u p=false∧takP u p=p:=by
 have e:Go.Proofs.Ytjnnmindcbgjhab.isT u p=false:=by rw[h.isT,hu];simp
 exact⟨e,takP_f e⟩
theorem Sfx.namSt {p:Pr} {t:List UInt8} {ts:List Kt} (h:Sfx p ((0,t)::ts)) (hw:wordB t=false):Go.Proofs.Ytjnnmindcbgjhab.nameB p=true∧namS p=t:=by
 have e:Go.Proofs.Ytjnnmindcbgjhab.nameB p=true:=by rw[h.nameB,hw];rfl
 exact⟨e,by unfold namS;rw[if_pos e];exact h.hd.2⟩
abbrev gSt (q:Pr) (cs:List (List UInt8)) (as':List Gy):St:=⟨[(2,true,.one (.p 2 0 0)),(8,true,.one (.p 28 0 0)),(9,true,.one (.p 9 0 0))],[(2,.vec 0 z2 [[cNr,cNr]]),(28,.vec 0 zPr [q.c]),(9,.vec 0 z2 [[.s 1000,.s 1001]]),(1000,.vec 0 zSr (cs.map sR1)),(1001,.vec 0 zGc (as'.map Gy.cc))]⟩
abbrev yc_rGlobals (L:List Gi) (s:List UInt8):Prop:=smallB s∧(∀g∈L,g.ok)∧L.length≤19∧∃T,rxT s=(T,0,0)∧T.map kt=giK L
abbrev yr_rGlobals (L:List Gi) (s:List UInt8):SV:=.tup [.inr (giV L).cc,.inl (.v (.int .i64 0)),.inl (.v (.int .i64 0))]
noncomputable abbrev ya_rGlobals:ArgC ((List UInt8)×Unit):=(acS (cStr) ac0)
abbrev yq_rGlobals (L:List Gi):Prop:=CallsY Try.prog 8 ya_rGlobals (fun p:(List UInt8)×Unit=>yc_rGlobals L p.1) (fun p:(List UInt8)×Unit=>yr_rGlobals L p.1)
theorem yn_rGlobals (L:List Gi):∀p:(List UInt8)×Unit,((fun p:(List UInt8)×Unit=>yr_rGlobals L p.1) p).names=[]:=by intro p;rfl
noncomputable def yg_rGlobals {X:Ctx} {w0:World} (L:List Gi) (h:yq_rGlobals L):Sy.Spec Try.prog X w0:=specD 8 Try.call8 ya_rGlobals (fun p:(List UInt8)×Unit=>yc_rGlobals L p.1) (fun p:(List UInt8)×Unit=>yr_rGlobals L p.1) (yn_rGlobals L) h
attribute [local go_sem] Pr.c zTk
set_option maxRecDepth 20000 in set_option maxHeartbeats 16000000 in
theorem y_rGlobals (L:List Gi):yq_rGlobals L:=by
 rintro ⟨s,_u⟩ w fz xs hc hfz hl hx
 refine calls_toL Try.func8 rfl w fz [ypTok,yp_take,yp_want,yp_named,yp_fail,yp_name,yp_number] [] ya_rGlobals (fun p:(List UInt8)×Unit=>yr_rGlobals L p.1) _ xs hfz hl hx (Nat.le_of_ble_eq_true rfl) ?_
 clear hx hl hfz xs
 simp only[Try.f8]
 obtain⟨hs,hL,hn,T,hT,hK⟩:=hc
 have hok:=p0_ok s (s.length:Int)
 rw[hT]at hok
 simp only[↓eB,seval,go_sem,ypTok,mPr_e,mPr_z,mPr_d,tk_at,Tok.r,cPt_d,ptR,rPr_d,mPr_d',rPr_d',pr_eta,hT]
 try simp only[impB,impN]
 repeat' (first|exact ck|with_reducible apply And.intro)
 all_goals try first|exact hs|decide|omega
 generalize (s.length:Int)=N at hok ⊢
 have hS:Sfx (p0 T N) (giK L):=⟨hok,rfl,hK⟩
 refine loop_ok (Y:=Pr×List (List UInt8)×List Gy×List Gi) (fun y=>Sfx y.1 (giK y.2.2.2)∧giA y.2.1 y.2.2.1 y.2.2.2=giV L∧(∀g∈y.2.2.2,g.ok)∧y.2.1.length+y.2.2.1.length+y.2.2.2.length≤19)
  (fun y=>gSt y.1 y.2.1 y.2.2.1) (fun y=>y.2.2.2.length) (p0 T N,[],[],L) ⟨hS,rfl,hL,by simpa using hn⟩ ?_ ?_
 ·refine to_with [.nilr 9 0 0 1000 zSr,.nilr 9 0 1 1001 zGc] ?_;simp only[↓eB,seval,go_sem,zSr,zGc,p0]
 ·rintro ⟨q,cs,as',M⟩ ⟨g1,g2,g3,g4⟩
  refine vc_ok [yp_take,yp_want,yp_named,yp_fail,yp_name,yp_number] [] _ _ _ ?_
  dsimp only at g1 g2 g3 g4
  have hlen:IntKind.i64.wrap ((cs.length:Int)+(as'.length:Int))=((cs.length+as'.length:Nat):Int):=by rw[wrap_i64 (by omega) (by omega)];rfl
  have hlen2:decide ((20:Int)≤((cs.length+as'.length:Nat):Int))=false:=by simp;omega
  have hE:(q.e==0)=true:=by rw[g1.e];rfl
  have hE2:(q.e != 0)=false:=by rw[g1.e];rfl
  cases M with
  |nil=>
   have g1:Sfx q []:=g1
   have h1:(q.e==0&&decide (q.i<(q.l.length:Int)))=false:=by rw[hE,g1.nil];simp
   have hr:giV L=⟨cs,as'⟩:=g2.symm
   simp only[↓eB,seval,go_sem,yp_named,yr_named,yp_fail,yp_want,yp_name,yp_take,yp_number,yr_number,mPr_e,mPr_z,mPr_d,tk_at,Tok.r,cPt_d,ptR,rPr_d,mPr_d',rPr_d',pr_eta,h1,hE2]
   try simp only[impB,impN]
   repeat' first|exact ck|with_reducible apply And.intro|intro _
   all_goals first|exact hE|(rename_i h;first|exact oI h|exact nah h)|(rename_i _ h _ g;exact sL h g)|decide|omega|(refine ret_with [.fz 1000,.fz 1001] ?_;simp only[↓eB,seval,go_sem,bne,yr_rGlobals,hr,Gl.cc,rowsS1.ds,rowsS1.fz,rowsGa.ds,rowsGa.fz,zSr,zGc,zGyD,zSqD])
  |cons m M=>
  cases m with
  |c x=>
   have hw:wordB x=false:=g3 _ (List.mem_cons_self ..)
   have g1:Sfx q ((0,celW)::(0,x)::(2,[59])::giK M):=g1
   have hlt:=g1.lt
   have h1:(q.e==0&&decide (q.i<(q.l.length:Int)))=true:=by rw[hE];simp[hlt]
   obtain⟨i1,e1⟩:=g1.takY (by decide)
   have a1:=g1.adv
   obtain⟨i2,e2⟩:=a1.namSt hw
   have e3:=a1.nam hw
   have a2:=a1.adv
   have e4:=a2.wan (by decide)
   have a3:=a2.adv
   have hok1:=g1.ok
   have hok2:=a1.ok
   have hok3:=a2.ok
   simp only[celW]at i1 e1
   simp only[↓eB,seval,go_sem,yp_named,yr_named,yp_fail,yp_want,yp_name,yp_take,yp_number,yr_number,mPr_e,mPr_z,mPr_d,tk_at,Tok.r,cPt_d,ptR,rPr_d,mPr_d',rPr_d',pr_eta,h1,i1,e1,i2,e2,e3,e4,hlen,hlen2]
   have hst:rowsStor [[C.v (Value.string (bs x))]]:=by
    intro r hr c hc
    rw[List.mem_singleton.1 hr]at hc
    rw[List.mem_singleton.1 hc];rfl
   try simp only[impB,impN]
   repeat' (first|exact ck|with_reducible apply And.intro)
   all_goals try first|exact hok1|exact hok2|exact hok3|exact hok2.i|exact hst|decide|omega
   refine⟨(adv (adv (adv q)),cs++[x],as',M),⟨a3,g2,fun g hg=>g3 g (List.mem_cons_of_mem _ hg),by simp only[List.length_append,List.length_cons,List.length_nil]at g4 ⊢;omega⟩,Nat.lt_succ_self _,to_trans (t:=⟨[(2,true,.one (.p 2 0 0)),(8,true,.one (.p 28 0 0)),(9,true,.one (.p 9 0 0))],[(2,.vec 0 z2 [[cNr,cNr]]),(28,.vec 0 zPr [(adv (adv (adv q))).c]),(9,.vec 0 z2 [[.s 73,.s 1001]]),(73,.vec 0 zSr ((cs++[x]).map sR1)),(1001,.vec 0 zGc (as'.map Gy.cc))]⟩) ?_ ?_⟩
   ·refine to_with [] ?_;simp only[↓eB,seval,go_sem,zSr,zGc,sR1,rowsS1.fn,rowsGa.fn,List.map_append,List.flatMap_append]
   ·refine to_with [.mv 73 1000] ?_;simp only[↓eB,seval,go_sem,zSr,zGc,rowsS1.mv,rowsS1.fn,rowsGa.mv,rowsGa.fn]
  |a x t=>
   obtain⟨hw,ht,hn0,hn1⟩:wordB x=false∧smallB t∧0<numW t 0∧numW t 0≤1048576:=g3 _ (List.mem_cons_self ..)
   have g1:Sfx q ((0,arrW)::(0,x)::(2,[91])::(1,t)::(2,[93])::(2,[59])::giK M):=g1
   have hlt:=g1.lt
   have h1:(q.e==0&&decide (q.i<(q.l.length:Int)))=true:=by rw[hE];simp[hlt]
   obtain⟨i1,e1⟩:=g1.takN (u:=celW) (by decide)
   have e1':=g1.wan (by decide)
   have a1:=g1.adv
   obtain⟨i2,e2⟩:=a1.namSt hw
   have e3:=a1.nam hw
   have a2:=a1.adv
   have e4:=a2.wan (by decide)
   have a3:=a2.adv
   have hok1:=g1.ok
   have hok2:=a1.ok
   have hok3:=a2.ok
   obtain⟨q3,hq3⟩:∃q3,adv (adv (adv q))=q3:=⟨_,rfl⟩
   rw[hq3]at e4 a3
   have h3:(q3.e==0&&decide (q3.i<(q3.l.length:Int)))=true:=by rw[a3.e];simp[a3.lt]
   have h3a:=a3.ok.i.1
   have h3b:=a3.lt
   have k3:(q3.l.getD q3.i.toNat tk0).k=1:=a3.hd.1
   have t3:(q3.l.getD q3.i.toNat tk0).t=t:=a3.hd.2
   have a4:=a3.adv
   have e5:wanP [93] ⟨q3.l,IntKind.i64.wrap (q3.i+1),q3.en,q3.e,q3.at',q3.deep,q3.n⟩=adv (adv q3):=a4.wan (by decide)
   have a5:=a4.adv
   have e6:=a5.wan (by decide)
   have a6:=a5.adv
   have hok4:=a3.ok
   have hok5:okP ⟨q3.l,IntKind.i64.wrap (q3.i+1),q3.en,q3.e,q3.at',q3.deep,q3.n⟩:=a4.ok
   have hok6:=a5.ok
   obtain⟨q5,hq5⟩:∃q5,adv (adv q3)=q5:=⟨_,rfl⟩
   rw[hq5]at e5 e6 hok6 a6
   have n1:decide ((1048576:Int)<numW t 0)=false:=by simp;omega
   have n2:(numW t 0==0)=false:=by simp;omega
   simp only[celW]at i1 e1
   simp only[arrW]at e1'
   have hst:rowsStor [[C.v (Value.string (bs x)),C.v (Value.int .i64 (numW t 0))]]:=by
    intro r hr c hc
    rw[List.mem_singleton.1 hr]at hc
    simp only[List.mem_cons,List.not_mem_nil,or_false]at hc
    rcases hc with rfl|rfl<;>rfl
   simp only[↓eB,seval,go_sem,yp_named,yr_named,yp_fail,yp_want,yp_name,yp_take,yp_number,yr_number,mPr_e,mPr_z,mPr_d,tk_at,Tok.r,cPt_d,ptR,rPr_d,mPr_d',rPr_d',pr_eta,h1,i1,e1,e1',i2,e2,e3,e4,e5,e6,h3,k3,t3,n1,n2,hlen,hlen2]
   try simp only[impB,impN]
   repeat' (first|exact ck|with_reducible apply And.intro)
   all_goals try first|exact hok1|exact hok2|exact hok3|exact hok4|exact hok5|exact hok6|exact hok2.i|exact hst|exact ht|exact h3a|exact h3b|decide|omega
   refine⟨(adv q5,cs,as'++[⟨x,numW t 0⟩],M),⟨a6,g2,fun g hg=>g3 g (List.mem_cons_of_mem _ hg),by simp only[List.length_append,List.length_cons,List.length_nil]at g4 ⊢;omega⟩,Nat.lt_succ_self _,to_trans (t:=⟨[(2,true,.one (.p 2 0 0)),(8,true,.one (.p 28 0 0)),(9,true,.one (.p 9 0 0))],[(2,.vec 0 z2 [[cNr,cNr]]),(28,.vec 0 zPr [(adv q5).c]),(9,.vec 0 z2 [[.s 1000,.s 145]]),(1000,.vec 0 zSr (cs.map sR1)),(145,.vec 0 zGc ((as'++[(⟨x,numW t 0⟩:Gy)]).map Gy.cc))]⟩) ?_ ?_⟩
   ·refine to_with [] ?_;simp only[↓eB,seval,go_sem,zSr,zGc,Gy.cc,rowsS1.fn,rowsGa.fn,List.map_append,List.flatMap_append]
   ·refine to_with [.mv 145 1001] ?_;simp only[↓eB,seval,go_sem,zSr,zGc,rowsS1.mv,rowsS1.fn,rowsGa.mv,rowsGa.fn]
end Go.Proofs.Ytjnnmindcbgjhab
namespace Go.Proofs.Ytjnnmindcbgjhab
open Go Go.Sy Go.RowKit
theorem gl_uq (v:SV) (a b:Gl) (h:leV v (.agg a.cc)) (h':leV v (.agg b.cc)):a=b:=by
 cases v with
 |one c=>exact h.elim
 |tup l=>exact h.elim
 |agg l=>
  obtain⟨cs,as'⟩:=a
  obtain⟨cs2,as2⟩:=b
  match l,h,h' with
  |[c0,c1],⟨h0,h1,_⟩,⟨g0,g1,_⟩=>
   have k1:=map_inj cSd_inj (leC_d h0 g0)
   have k2:=map_inj gyr_inj (leC_d h1 g1)
   simp only at k1 k2
   subst k1;subst k2;rfl
noncomputable def cGl:Cod Gl:=codOf (fun g=>.agg g.cc) gl_uq (fun g=>rfl)
theorem cGl_e (g:Gl):cGl.e g= .agg g.cc:=rfl
theorem cGl_d (cs:List (List UInt8)) (as':List Gy):cGl.d (.agg [.d (.sl zSqD (cs.map cSd)),.d (.sl zGyD (as'.map Gy.r))])=some ⟨cs,as'⟩:=codOf_le (e:=fun g:Gl=>.agg g.cc) (a:=⟨cs,as'⟩) (leV_refl _)
def Gl.ns (g:Gl):List (List UInt8):=g.c++g.a.map Gy.s
def onceL (l:List (List UInt8)):Prop:=∀i j,j<i→i<l.length→(l.getD j []==l.getD i [])=false
theorem cSd_oD (l:List (List UInt8)):(l.map cSd).map (fun r=>r.map oD)=l.map sR1:=by simp[cSd,oD,sR1]
theorem sR1_st (l:List (List UInt8)):rowsStor (l.map sR1):=by
 intro r h c hc
 obtain⟨x,_,rfl⟩:=List.mem_map.1 h
 rw[List.mem_singleton.1 hc];rfl
theorem sR_at {l:List (List UInt8)} {i:Nat} (h:i<l.length) (z:List C):(l.map sR1).getD i z=[.v (.string (bs (l.getD i [])))]:=by simp[List.getD,h,sR1]
abbrev yc_Check (g:Gl):Prop:=g.c.length≤5000∧g.a.length≤5000∧onceL g.ns
abbrev yr_Check (g:Gl):SV:=.one (.v (.int .i64 0))
noncomputable abbrev ya_Check:ArgC ((Gl)×Unit):=(acS (cGl) ac0)
abbrev yq_Check:Prop:=CallsY Try.prog 9 ya_Check (fun p:(Gl)×Unit=>yc_Check p.1) (fun p:(Gl)×Unit=>yr_Check p.1)
theorem yn_Check:∀p:(Gl)×Unit,((fun p:(Gl)×Unit=>yr_Check p.1) p).names=[]:=by intro p;rfl
attribute [local go_sem] Gl.cc cGl_d cGl_e sR1
set_option maxRecDepth 20000 in set_option maxHeartbeats 16000000 in
theorem y_Check:yq_Check:=by
 rintro ⟨g,_u⟩ w fz xs hc hfz hl hx
 refine calls_toL Try.func9 rfl w fz [] [] ya_Check (fun p:(Gl)×Unit=>yr_Check p.1) _ xs hfz hl hx (Nat.le_of_ble_eq_true rfl) ?_
 clear hx hl hfz xs
 simp only[Try.f9]
 obtain⟨pc,pa⟩:=g
 obtain⟨h1,h2,h3⟩:=hc
 dsimp only at h1 h2
 have hst:=sR1_st pc
 have hcs:=cSd_oD pc
 simp only[↓eB,seval,go_sem,rowsS1.fn,rowsS1.mv]
 refine⟨⟨fun q h=>by cases h;rfl,by rw[hcs];exact hst,by omega,by omega⟩,?_⟩
 refine loop_ok (Y:=Nat) (fun i=>i≤pa.length)
  (fun i=>⟨[(1,true,.one (.p 1 0 0)),(2,true,.one (.v (.int .i64 0))),(3,true,.one (.s 1000)),(4,true,.one (.v (.int .i64 (i:Int))))],
   [(1,.vec 0 [.v (.bool false),.v (.bool false)] [[.d (.sl zSqD (pc.map cSd)),.d (.sl zGyD (pa.map Gy.r))]]),(1000,.vec 0 zSr ((pc++(pa.take i).map Gy.s).map sR1))]⟩)
  (fun i=>pa.length-i) 0 (Nat.zero_le _) ?_ ?_
 ·refine to_with [.mv 9 1000] ?_;simp only[↓eB,seval,go_sem,rowsS1.fn,rowsS1.mv,hcs,zSr]
 ·rintro i hi
  refine vc_ok [] [] _ _ _ ?_
  have w1:IntKind.i64.wrap ((i:Int)+1)=((i+1:Nat):Int):=by rw[wrap_i64 (by omega) (by omega)];rfl
  cases hx:pa[i]? with
  |none=>
   have g2:=List.getElem?_eq_none_iff.1 hx
   have g1:=natI_ge g2
   simp only[↓eB,seval,go_sem,rowsS1.fn,rowsS1.mv,g1]
   rw[List.take_of_length_le g2]
   obtain⟨L,hL⟩:∃L,pc++pa.map Gy.s=L:=⟨_,rfl⟩
   have hln:L.length≤10000:=by rw[← hL];simp;omega
   have h3':onceL L:=by rw[← hL];exact h3
   rw[hL]
   refine loop_ok (Y:=Nat) (fun i=>i≤L.length)
    (fun i=>⟨[(2,true,.one (.v (.int .i64 0))),(3,true,.one (.s 1000)),(5,true,.one (.v (.int .i64 (i:Int))))],[(1000,.vec 0 zSr (L.map sR1))]⟩)
    (fun i=>L.length-i) 0 (Nat.zero_le _) ?_ ?_
   ·refine to_with [] ?_;simp only[↓eB,seval,go_sem,rowsS1.fn,rowsS1.mv,zSr]
   ·rintro j hj
    refine vc_ok [] [] _ _ _ ?_
    have w2:IntKind.i64.wrap ((j:Int)+1)=((j+1:Nat):Int):=by rw[wrap_i64 (by omega) (by omega)];rfl
    by_cases hjl:j<L.length
    ·have k1:=natI_lt hjl
     have hjt:=sR_at hjl
     simp only[↓eB,seval,go_sem,rowsS1.fn,rowsS1.mv,k1]
     refine loop_ok (Y:=Nat) (fun k=>k≤j)
      (fun k=>⟨[(2,true,.one (.v (.int .i64 0))),(3,true,.one (.s 1000)),(5,true,.one (.v (.int .i64 (j:Int)))),(6,true,.one (.v (.int .i64 (k:Int))))],[(1000,.vec 0 zSr (L.map sR1))]⟩)
      (fun k=>j-k) 0 (Nat.zero_le _) ?_ ?_
     ·refine to_with [] ?_;simp only[↓eB,seval,go_sem,rowsS1.fn,rowsS1.mv,zSr]
     ·rintro k hk
      refine vc_ok [] [] _ _ _ ?_
      have w3:IntKind.i64.wrap ((k:Int)+1)=((k+1:Nat):Int):=by rw[wrap_i64 (by omega) (by omega)];rfl
      by_cases hkj:k<j
      ·have q1:=natI_lt hkj
       have hkt:=sR_at (show k<L.length by omega)
       have hne:=h3' j k hkj hjl
       simp only[↓eB,seval,go_sem,rowsS1.fn,rowsS1.mv,q1,hjt,hkt,hne,w3,zSr]
       refine⟨(by omega),(by omega),(by omega),hjl,chk_ok (by kernel_rfl),k+1,hkj,(by omega),?_⟩
       refine to_with [] ?_;simp only[↓eB,seval,go_sem,rowsS1.fn,rowsS1.mv,zSr]
      ·have q1:=natI_ge (Nat.le_of_not_lt hkj)
       simp only[↓eB,seval,go_sem,rowsS1.fn,rowsS1.mv,q1,w2]
       refine⟨j+1,hjl,(by omega),?_⟩
       refine to_with [] ?_;simp only[↓eB,seval,go_sem,rowsS1.fn,rowsS1.mv,zSr]
    ·have k1:=natI_ge (Nat.le_of_not_lt hjl)
     simp only[↓eB,seval,go_sem,rowsS1.fn,rowsS1.mv,k1]
     try simp only[impB,impN]
     repeat' first|exact ck|with_reducible apply And.intro|intro _
     all_goals first|exact trivial|(rename_i h;first|exact oI h|exact nah h)|(rename_i _ h _ g;exact sL h g)|decide|omega|(refine ret_with [] ?_;simp only[↓eB,seval,go_sem,bne,yr_Check,rowsS1.fn,rowsS1.mv])
  |some y=>
   have hlt:=(List.getElem?_eq_some_iff.1 hx).1
   have g1:=natI_lt hlt
   obtain⟨ys,yn⟩:=y
   have hs:∀z,(pa.map Gy.r).getD i z=[.v (.string (bs ys)),.v (.int .i64 yn)]:=by intro z;simp[List.getD,hx,Gy.r]
   simp only[↓eB,seval,go_sem,rowsS1.fn,rowsS1.mv,g1,w1,hs]
   have hil:(i:Int)<(pa.length:Int):=by omega
   have hln:(pc++List.map Gy.s (List.take i pa)).length=pc.length+i:=by simp;omega
   have ht:(pc++(pa.take (i+1)).map Gy.s).map sR1=(pc++(pa.take i).map Gy.s).map sR1++[[.v (.string (bs ys))]]:=by
    rw[List.take_add_one,hx];simp[sR1]
   have hrs:rowsStor [[C.v (Value.string (bs ys))]]:=sR1_st [ys]
   refine⟨⟨hil,rfl⟩,⟨⟨rfl,.inl rfl⟩,(fun q h=>by cases h;rfl),hrs,(by decide),(by rw[hln];omega),(by rw[hln];omega)⟩,i+1,hlt,(by omega),to_trans (t:=⟨[(1,true,.one (.p 1 0 0)),(2,true,.one (.v (.int .i64 0))),(3,true,.one (.s 25)),(4,true,.one (.v (.int .i64 ((i+1:Nat):Int))))],
    [(1,.vec 0 [.v (.bool false),.v (.bool false)] [[.d (.sl zSqD (pc.map cSd)),.d (.sl zGyD (pa.map Gy.r))]]),(25,.vec 0 zSr ((pc++(pa.take (i+1)).map Gy.s).map sR1))]⟩) ?_ ?_⟩
   ·refine to_with [] ?_;simp only[↓eB,seval,go_sem,rowsS1.fn,rowsS1.mv,zSr,ht,List.map_append,List.flatMap_append]
   ·refine to_with [.mv 25 1000] ?_;simp only[↓eB,seval,go_sem,rowsS1.fn,rowsS1.mv,zSr]
noncomputable def yp_Check {X:Ctx} {w0:World}:Sy.Spec Try.prog X w0:=specD 9 Try.call9 ya_Check (fun p:(Gl)×Unit=>yc_Check p.1) (fun p:(Gl)×Unit=>yr_Check p.1) yn_Check y_Check
end Go.Proofs.Ytjnnmindcbgjhab
namespace Go.Proofs.Ytjnnmindcbgjhab
open Go Go.Sy Go.RowKit
theorem gl_nm:∀x∈([[99],[100],[101],[116],[117]]:List (List UInt8)),wordB x=false:=by decide
structure glO (s:List UInt8) (L:List Gi):Prop where
 sm:smallB s
 o:∀g∈L,g.ok
 n:L.length≤19
 t:∃T,rxT s=(T,0,0)∧T.map kt=giK L
end Go.Proofs.Ytjnnmindcbgjhab
