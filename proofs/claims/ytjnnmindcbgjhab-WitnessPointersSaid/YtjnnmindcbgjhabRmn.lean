/- A run, walked. No conditions but those in each statement. -/
import Derived.Test.YtjnnmindcbgjhabRml
import Derived.Test.YtjnnmindcbgjhabRmi
set_option linter.unusedVariables false
set_option linter.unusedSimpArgs false
namespace Go.Proofs.Ytjnnmindcbgjhab
open Go Go.Sy Go.RowKit
section
variable {X:Ctx} {w0:World}
noncomputable def yp_firstC1:Sy.Spec Try.prog X w0:=specL' 31 Try.call31 (amFn 32 mPg) Cd_C1 (fun _=>false) R_C1 M_C1 (fun _=>mlO [none])
 (fun p _ _=>⟨rfl,rfl,rfl,box_ok _ (pgR_nm p.2)⟩) (fun a _ h=>by cases h) (fun a _ h=>by cases h) (fun _=>rfl) y_firstC1
noncomputable def yp_firstC2:Sy.Spec Try.prog X w0:=specL' 31 Try.call31 (amFn 33 mPg) Cd_C2 (fun _=>false) R_C2 M_C2 (fun _=>mlO [none])
 (fun p _ _=>⟨rfl,rfl,rfl,box_ok _ (pgR_nm p.2)⟩) (fun a _ h=>by cases h) (fun a _ h=>by cases h) (fun _=>rfl) y_firstC2
noncomputable def yp_firstC3:Sy.Spec Try.prog X w0:=specL' 31 Try.call31 (amFn 34 mPg) Cd_C3 (fun _=>false) R_C3 M_C3 (fun _=>mlO [none])
 (fun p _ _=>⟨rfl,rfl,rfl,box_ok _ (pgR_nm p.2)⟩) (fun a _ h=>by cases h) (fun a _ h=>by cases h) (fun _=>rfl) y_firstC3
noncomputable def yp_first23:Sy.Spec Try.prog X w0:=selSpec (fnSel 33) yp_firstC2 yp_firstC3 rfl
noncomputable def yp_firstX:Sy.Spec Try.prog X w0:=selSpec (fnSel 32) yp_firstC1 yp_first23 rfl
theorem yN_firstX (t:Nat) (args:List SV) (H:Hp):(yp_firstX (X:=X) (w0:=w0)).fn t args H=if fnSel 32 args=true then spL X ((amFn 32 mPg).d H args) t H Cd_C1 (fun _=>false) R_C1 M_C1 (fun _=>mlO [none])
 else if fnSel 33 args=true then spL X ((amFn 33 mPg).d H args) t H Cd_C2 (fun _=>false) R_C2 M_C2 (fun _=>mlO [none]) else spL X ((amFn 34 mPg).d H args) t H Cd_C3 (fun _=>false) R_C3 M_C3 (fun _=>mlO [none]):=rfl
theorem fn_ro {F:FuncId} {t:Nat} {args:List SV} {H:Hp} {Cd:Int×Pg→Prop} {R:Int×Pg→SV} {M:Int×Pg→List (Option ML)} {pan:Int×Pg→List (Option ML)} {c:Prop} {e:Eff} {fp:List Nat} (hR:∀q,noVw (R q)=true∧(R q).names=[]∧∃y,R q= .one (.d y)) (hM:∀q,M q=[some (.vec zPg [pgR q.2])])
  (h:spL X ((amFn F mPg).d H args) t H Cd (fun _=>false) R M pan=some (c,e,fp)):keepsU H e.upd∧noVw e.val=true∧e.val.names=[]:=by
 cases hd:(amFn F mPg).d H args with
 |none=>rw[hd]at h;cases hf:H (fcN t)<;>cases hg:H (t+600000)<;>(simp only[spL]at h;cases h)
 |some p=>
  obtain⟨⟨n,b⟩,ks⟩:=p
  obtain⟨k,u,z,rfl,rfl,h1,hz,hz0⟩:=fnJ_ok hd
  rw[hd,spL_some]at h
  split at h
  case h_2=>cases h
  rename_i hf _
  simp only[Option.some.injEq,Prod.mk.injEq]at h
  obtain⟨_,rfl,_⟩:=h
  obtain⟨g1,g2,y,g3⟩:=hR (n,b)
  have hv:renQ H [k] t (R (n,b))=R (n,b):=by rw[g3];rfl
  refine⟨?_,by rw[hv];exact g1,by rw[hv];exact g2⟩
  rw[hM]
  intro k2 ch hk2
  have hne:k2≠fcN t:=by rintro rfl;rw[hf]at hk2;cases hk2
  by_cases e:k2=k
  ·subst e
   rw[h1]at hk2
   simp only[Option.some.injEq]at hk2
   subst hk2
   refine .inr ⟨u,u+1,z,zPg,[mPg.e b],rfl,?_,simB_one (fun c hc=>?_),hz,hz0⟩
   ·simp only[updL,updX,List.append_nil,List.cons_append,List.nil_append,updH,upd,h1,Option.map_some,bumpL,if_true]
    congr 2
    simp only[ML.ren,List.map_cons,List.map_nil,mPg_e]
    rw[map_self fun c hc=>rnC_clos (pgR_nm b c hc)]
    exact if_neg hne
   ·simp only[mPg_e,pgR,List.mem_cons,List.not_mem_nil,or_false]at hc
    rcases hc with rfl|rfl|rfl<;>exact⟨rfl,rfl⟩
  ·left
   simp only[updL,updX,List.append_nil,List.cons_append,List.nil_append,updH,upd,if_neg e,if_neg hne]
   exact hk2
noncomputable def yp_first:Sy.Spec Try.prog X w0:=roSpec yp_firstX (fun t args H c e fp h _ _=>by
 rw[yN_firstX]at h
 split at h
 ·exact fn_ro (fun q=>⟨rfl,rfl,_,rfl⟩) (fun q=>rfl) h
 ·split at h
  ·exact fn_ro (fun q=>⟨rfl,rfl,_,rfl⟩) (fun q=>rfl) h
  ·exact fn_ro (fun q=>⟨rfl,rfl,_,rfl⟩) (fun q=>rfl) h)
theorem yF_first:(yp_first (X:=X) (w0:=w0)).f=31:=rfl
theorem yN_first (t:Nat) (args:List SV) (H:Hp):(yp_first (X:=X) (w0:=w0)).fn t args H=match (if fnSel 32 args=true then spL X ((amFn 32 mPg).d H args) t H Cd_C1 (fun _=>false) R_C1 M_C1 (fun _=>mlO [none])
 else if fnSel 33 args=true then spL X ((amFn 33 mPg).d H args) t H Cd_C2 (fun _=>false) R_C2 M_C2 (fun _=>mlO [none]) else spL X ((amFn 34 mPg).d H args) t H Cd_C3 (fun _=>false) R_C3 M_C3 (fun _=>mlO [none])) with
  |some (c,e,fp)=>some (c,⟨e.val,[]⟩,fp)
  |none=>none:=rfl
noncomputable def yp_start:Sy.Spec Try.prog X w0:=specL' 35 Try.call35 ya_start Cd_st (fun _=>false) R_st M_st (fun _=>mlO [])
 (fun p _ _=>⟨rfl,rfl,rfl,nba_ok [] _ _⟩) (fun a _ h=>by cases h) (fun a _ h=>by cases h) (fun _=>rfl) y_start
theorem yF_start:(yp_start (X:=X) (w0:=w0)).f=35:=rfl
theorem yN_start (t:Nat) (args:List SV) (H:Hp):(yp_start (X:=X) (w0:=w0)).fn t args H=spL X (ya_start.d H args) t H Cd_st (fun _=>false) R_st M_st (fun _=>mlO []):=rfl
noncomputable def yg_mRun (N n:Nat) (h:CallsM Try.prog 36 (ya_mRun.args 0) ya_mRun.mem (Cd_rn N n) (fun _=>.tup []) (M_rn n)):Sy.Spec Try.prog X w0:=
 specM 36 Try.call36 ya_mRun (Cd_rn N n) (fun _=>.tup []) (M_rn n) (fun _ _=>rfl) (fun _ _=>rfl) (fun _ _=>mcW_nm _ _) h
theorem yF_mRun (N n:Nat) (h):(yg_mRun (X:=X) (w0:=w0) N n h).f=36:=rfl
theorem yN_mRun (N n:Nat) (h) (t:Nat) (args:List SV) (H:Hp):(yg_mRun (X:=X) (w0:=w0) N n h).fn t args H=spM (ya_mRun.d H args) t H (Cd_rn N n) (fun _=>.tup []) (M_rn n):=rfl
end
theorem nbL_cl (l:List Nb):((l.map Nb.c).all fun r=>r.all fun c=>c.names.isEmpty)=true:=by
 rw[List.all_eq_true]
 intro r hr
 obtain⟨a,_,rfl⟩:=List.mem_map.1 hr
 rfl
theorem naL_cl (l:List Na):((l.map Na.c).all fun r=>r.all fun c=>c.names.isEmpty)=true:=by
 rw[List.all_eq_true]
 intro r hr
 obtain⟨a,_,rfl⟩:=List.mem_map.1 hr
 rfl
theorem nb_dss (l:List Nb):toDss (l.map Nb.c)=some (l.map Nb.r):=toDss_of Nb.c (fun _=>rfl) l
theorem cI_dss (l:List Int):toDss (l.map cI)=some (l.map iD):=toDss_of cI (fun _=>rfl) l
theorem na_dss (l:List Na):toDss (l.map Na.c)=some (l.map Na.r):=toDss_of Na.c (fun x=>by
 simp only[Na.c,toDs,toD,zI,cI_dss,Na.r]) l
theorem nbL_fz (k:Nat) (z:List D) (e:List (List D)) (l:List Nb):(l.map Nb.c).map (fun r=>r.map (fzC k z e))=l.map Nb.c:=map_of Nb.c (fun _=>rfl) l
theorem naL_fz (k:Nat) (z:List D) (e:List (List D)) (l:List Na):(l.map Na.c).map (fun r=>r.map (fzC k z e))=l.map Na.c:=map_of Na.c (fun _=>rfl) l
def ms0 (P:Pg) (s:Sta) (fuel:Int):Ms:=⟨mn fuel 1048576,0,stCs P.g.c s.cs,stA P.g.a s.ar,2,0,[],0,0⟩
def clF (n:Nat) (P:Pg) (f:List UInt8) (va:List Va) (s:Sta) (fuel:Int):Ms:=if 1≤fuel then rnZ (rnA n P f va (ms0 P s fuel)) else ms0 P s fuel
def ouC (m:Ms):List C:=[.v (.int .i64 m.e),.v (.int .i64 m.v),.v (.string (bs m.f)),.v (.int .i64 m.al),.v (.int .i64 m.k),.d (.sl zNbD (m.cs.map Nb.r)),.d (.sl zNaD (m.ar.map Na.r))]
structure okR (N n:Nat) (P:Pg) (va:List Va) (s:Sta) (fuel:Int):Prop where
 p:okPg N P
 c:P.g.c.length≤1000000
 a:P.g.a.length≤1000000
 l:∀x∈P.g.a,1≤x.n∧x.n≤1048576
 sc:s.cs.length≤1000000
 sa:s.ar.length≤1000000
 v:va.length≤5000
 f:fuel<n
 n:n≤1000000000
theorem stA_len (p:List Gy) (s:List Na) (h:∀x∈p,x.n≤1048576):∀x∈stA p s,x.l.length≤1000000000:=by
 intro x hx
 obtain⟨y,hy,rfl⟩:=List.mem_map.1 hx
 obtain⟨g,hg,rfl⟩:=List.mem_map.1 hy
 have:=h g hg
 unfold stNa
 split
 ·dsimp only;rw[cpL_len];simp;omega
 ·simp;omega
theorem mn_le (x:Int):mn x 1048576≤x∧mn x 1048576≤1048576∧(1≤x→1≤mn x 1048576):=by unfold mn;split<;>omega
abbrev yc_Call (N:Nat) (n:Nat) (p:Pg) (f:List UInt8) (va:List Va) (s:Sta) (fuel:Int):Prop:=okR N n p va s fuel
abbrev yr_Call (N:Nat) (n:Nat) (p:Pg) (f:List UInt8) (va:List Va) (s:Sta) (fuel:Int):SV:=.agg (ouC (clF n p f va s fuel))
noncomputable abbrev ya_Call:ArgC ((Pg)×(List UInt8)×(List Va)×(Sta)×(Int)×Unit):=(acS (cPg) (acS (cStr) (acS (cVas) (acS (cSta) (acS (cInt .i64) ac0)))))
abbrev yq_Call (N:Nat) (n:Nat):Prop:=CallsY Try.prog 16 ya_Call (fun p:(Pg)×(List UInt8)×(List Va)×(Sta)×(Int)×Unit=>yc_Call N n p.1 p.2.1 p.2.2.1 p.2.2.2.1 p.2.2.2.2.1) (fun p:(Pg)×(List UInt8)×(List Va)×(Sta)×(Int)×Unit=>yr_Call N n p.1 p.2.1 p.2.2.1 p.2.2.2.1 p.2.2.2.2.1)
theorem yn_Call (N:Nat) (n:Nat):∀p:(Pg)×(List UInt8)×(List Va)×(Sta)×(Int)×Unit,((fun p:(Pg)×(List UInt8)×(List Va)×(Sta)×(Int)×Unit=>yr_Call N n p.1 p.2.1 p.2.2.1 p.2.2.2.1 p.2.2.2.2.1) p).names=[]:=by intro p;rfl
noncomputable def yg_Call {X:Ctx} {w0:World} (N:Nat) (n:Nat) (h:yq_Call N n):Sy.Spec Try.prog X w0:=specD 16 Try.call16 ya_Call (fun p:(Pg)×(List UInt8)×(List Va)×(Sta)×(Int)×Unit=>yc_Call N n p.1 p.2.1 p.2.2.1 p.2.2.2.1 p.2.2.2.2.1) (fun p:(Pg)×(List UInt8)×(List Va)×(Sta)×(Int)×Unit=>yr_Call N n p.1 p.2.1 p.2.2.1 p.2.2.2.1 p.2.2.2.2.1) (yn_Call N n) h
attribute [local go_sem] Fa.mem Fa.memO Fa.pan ML.ch ML.ren amCl_a amCl_d amCl_m amFn_a amFn_d amFn_m amFr_a amFr_d amFr_m bumpL cPg_d cPg_e cSta_d cSta_e cVas_d cVas_e chL clJ_eq faD_p faJ_some faK_some fa_eta fcN fnJ_v fnK_v fnSel_v frC frD_v frJ_eq lmH lmO mMc_d' mMc_e mMc_z mPg_d mPg_e mPg_z mSt_d mSt_e mSt_z mcC mcD_v mcR_d mcW mlO_nil mlO_none mlO_some ms_eta naL_cl naL_nm naL_rn nbL_cl nbL_nm nbL_rn nmX pgR pg_eta pnL_nil pnL_none pnL_some pnOL_f pnOL_t pnOf_f pnOf_t renQ renQC rnC spL_some specL'_f specL'_fn stR updL updX vrQ vsD_v wkR_me yF_first yF_mRun yF_start yN_first yN_mRun yN_start
set_option maxRecDepth 20000 in set_option maxHeartbeats 16000000 in
theorem y_Call (N:Nat) (n:Nat):yq_Call N n:=by
 rintro ⟨p,f,va,s,fuel,_u⟩ w fz xs hc hfz hl hx
 refine calls_toL Try.func16 rfl w fz [yp_first,yp_start,(yg_mRun N n (y_mRun N n))] [(2,[.fold 37 0 8,.fold 37 0 9]),(4,[.unr 37 0 8 1008,.unr 37 0 9 1009])] ya_Call (fun p:(Pg)×(List UInt8)×(List Va)×(Sta)×(Int)×Unit=>yr_Call N n p.1 p.2.1 p.2.2.1 p.2.2.2.1 p.2.2.2.2.1) _ xs hfz hl hx (Nat.le_of_ble_eq_true rfl) ?_
 clear hx hl hfz xs
 simp only[Try.f16]
 obtain⟨⟨pc,pa⟩,pf⟩:=p
 obtain⟨sc,sa⟩:=s
 obtain⟨hP,hc,ha,hl,hsc,hsa,hva,hfn,hn9⟩:=hc
 dsimp only at hc ha hl hsc hsa
 have hfn:fuel<n:=hfn
 have hfm:=mn_le fuel
 have hB:Cd_Bl ((⟨⟨pc,pa⟩,pf⟩:Pg),()):=⟨hc,ha,fun x hx=>(hl x hx).2⟩
 have hS:Cd_st ((⟨⟨pc,pa⟩,pf⟩:Pg),⟨sc,sa⟩,()):=⟨hB,fun x hx=>(hl x hx).1,hsc,hsa⟩
 by_cases h1:1≤fuel
 ·have hd:decide (1≤fuel)=true:=decide_eq_true h1
  obtain⟨m,hm⟩:∃m,rnZ (rnA n ⟨⟨pc,pa⟩,pf⟩ f va ⟨mn fuel 1048576,0,stCs pc sc,stA pa sa,2,0,[],0,0⟩)=m:=⟨_,rfl⟩
  have hr:clF n ⟨⟨pc,pa⟩,pf⟩ f va ⟨sc,sa⟩ fuel=m:=by unfold clF;rw[if_pos h1];exact hm
  simp only[↓eB,seval,go_sem,xt,↓e_fac4,hd,hm]
  refine⟨⟨by simp,by simpa using hP.l⟩,⟨rfl,hc⟩,⟨by simp,by simpa using ha⟩,hS,chk_ok (by kernel_rfl),⟨⟨hP,⟨by simp[stCs,blC],by simp[stA,blA],hc,ha⟩,stA_len pa sa (fun x hx=>(hl x hx).2),by have:=hfm.2.2 h1;show 0≤mn fuel 1048576;omega,by show mn fuel 1048576<(n:Int);omega⟩,hva,hn9⟩,?_⟩
  refine ret_with [.fz 1008,.fz 1009] ?_;simp only[↓eB,seval,go_sem,bne,yr_Call,hr,ouC,nb_dss,na_dss,nbL_fz,naL_fz,zNb,zNa]
 ·have hd:decide (1≤fuel)=false:=decide_eq_false h1
  have hr:clF n ⟨⟨pc,pa⟩,pf⟩ f va ⟨sc,sa⟩ fuel=⟨mn fuel 1048576,0,stCs pc sc,stA pa sa,2,0,[],0,0⟩:=by unfold clF;rw[if_neg h1];rfl
  simp only[↓eB,seval,go_sem,xt,↓e_fac4,hd]
  refine⟨⟨by simp,by simpa using hP.l⟩,⟨rfl,hc⟩,⟨by simp,by simpa using ha⟩,hS,chk_ok (by kernel_rfl),?_⟩
  refine ret_with [.fz 1008,.fz 1009] ?_;simp only[↓eB,seval,go_sem,bne,yr_Call,hr,ouC,nb_dss,na_dss,nbL_fz,naL_fz,zNb,zNa]
end Go.Proofs.Ytjnnmindcbgjhab
