/- A run, walked. No conditions but those in each statement. -/
import Derived.Test.YtjnnmindcbgjhaaRml
import Derived.Test.YtjnnmindcbgjhaaRmi
import Derived.Test.YtjnnmindcbgjhaaPgm
set_option linter.unusedVariables false
set_option linter.unusedSimpArgs false
namespace Go.Proofs.Ytjnnmindcbgjhaa
open Go Go.Sy Go.RowKit
section
variable {X:Ctx} {w0:World}
noncomputable def yp_firstC1:Sy.Spec Try.prog X w0:=specL' 31 Try.call31 (amFn 32 mPg) Cd_C1 (fun _=>false) R_C1 M_C1 (fun _=>mlO [none])
 (fun p _ _=>⟨rfl,rfl,rfl,box_ok _ (pgR_nm p.2)⟩) (fun a _ h=>by cases h) (fun a _ h=>by cases h) (fun _=>rfl) y_firstC1
noncomputable def yp_firstC2:Sy.Spec Try.prog X w0:=specL' 31 Try.call31 (amFn 33 mPg) Cd_C2 (fun _=>false) R_C2 M_C2 (fun _=>mlO [none])
 (fun p _ _=>⟨rfl,rfl,rfl,box_ok _ (pgR_nm p.2)⟩) (fun a _ h=>by cases h) (fun a _ h=>by cases h) (fun _=>rfl) y_firstC2
noncomputable def yp_firstC3:Sy.Spec Try.prog X w0:=specL' 31 Try.call31 (amFn 34 mPg) Cd_C3 (fun _=>false) R_C3 M_C3 (fun _=>mlO [none])
 (fun p _ _=>⟨rfl,rfl,rfl,box_ok _ (pgR_nm p.2)⟩) (fun a _ h=>by cases h) (fun a _ h=>by cases h) (fun _=>rfl) y_firstC3
noncomputable def yp_first23:Sy.Spec Try.prog X w0:=selSpec (fnSel 33) yp_firstC2 yp_firstC3 rfl
noncomputable def yp_firstX:Sy.Spec Try.prog X w0:=selSpec (fnSel 32) yp_firstC1 yp_first23 rfl
theorem yN_firstX (t:Nat) (args:List SV) (H:Hp):(yp_firstX (X:=X) (w0:=w0)).fn t args H=if fnSel 32 args=true then spL X ((amFn 32 mPg).d H args) t H Cd_C1 (fun _=>false) R_C1 M_C1 (fun _=>mlO [none])
 else if fnSel 33 args=true then spL X ((amFn 33 mPg).d H args) t H Cd_C2 (fun _=>false) R_C2 M_C2 (fun _=>mlO [none]) else spL X ((amFn 34 mPg).d H args) t H Cd_C3 (fun _=>false) R_C3 M_C3 (fun _=>mlO [none]):=rfl
theorem fn_ro {F:FuncId} {t:Nat} {args:List SV} {H:Hp} {Cd:Int×Pg→Prop} {R:Int×Pg→SV} {M:Int×Pg→List (Option ML)} {pan:Int×Pg→List (Option ML)} {c:Prop} {e:Eff} {fp:List Nat} (hR:∀q,noVw (R q)=true∧(R q).names=[]∧∃y,R q= .one (.d y)) (hM:∀q,M q=[some (.vec zPg [pgR q.2])])
  (h:spL X ((amFn F mPg).d H args) t H Cd (fun _=>false) R M pan=some (c,e,fp)):keepsU H e.upd∧noVw e.val=true∧e.val.names=[]:=by
 cases hd:(amFn F mPg).d H args with
 |none=>rw[hd]at h;cases hf:H (fcN t)<;>cases hg:H (t+600000)<;>(simp only[spL]at h;cases h)
 |some p=>
  obtain⟨⟨n,b⟩,ks⟩:=p
  obtain⟨k,u,z,rfl,rfl,h1,hz,hz0⟩:=fnJ_ok hd
  rw[hd,spL_some]at h
  split at h
  case h_2=>cases h
  rename_i hf _
  simp only[Option.some.injEq,Prod.mk.injEq]at h
  obtain⟨_,rfl,_⟩:=h
  obtain⟨g1,g2,y,g3⟩:=hR (n,b)
  have hv:renQ H [k] t (R (n,b))=R (n,b):=by rw[g3];rfl
  refine⟨?_,by rw[hv];exact g1,by rw[hv];exact g2⟩
  rw[hM]
  intro k2 ch hk2
  have hne:k2≠fcN t:=by rintro rfl;rw[hf]at hk2;cases hk2
  by_cases e:k2=k
  ·subst e
   rw[h1]at hk2
   simp only[Option.some.injEq]at hk2
   subst hk2
   refine .inr ⟨u,u+1,z,zPg,[mPg.e b],rfl,?_,simB_one (fun c hc=>?_),hz,hz0⟩
   ·simp only[updL,updX,List.append_nil,List.cons_append,List.nil_append,updH,upd,h1,Option.map_some,bumpL,if_true]
    congr 2
    simp only[ML.ren,List.map_cons,List.map_nil,mPg_e]
    rw[map_self fun c hc=>rnC_clos (pgR_nm b c hc)]
    exact if_neg hne
   ·simp only[mPg_e,pgR,List.mem_cons,List.not_mem_nil,or_false]at hc
    rcases hc with rfl|rfl|rfl<;>exact⟨rfl,rfl⟩
  ·left
   simp only[updL,updX,List.append_nil,List.cons_append,List.nil_append,updH,upd,if_neg e,if_neg hne]
   exact hk2
noncomputable def yp_first:Sy.Spec Try.prog X w0:=roSpec yp_firstX (fun t args H c e fp h _ _=>by
 rw[yN_firstX]at h
 split at h
 ·exact fn_ro (fun q=>⟨rfl,rfl,_,rfl⟩) (fun q=>rfl) h
 ·split at h
  ·exact fn_ro (fun q=>⟨rfl,rfl,_,rfl⟩) (fun q=>rfl) h
  ·exact fn_ro (fun q=>⟨rfl,rfl,_,rfl⟩) (fun q=>rfl) h)
theorem yF_first:(yp_first (X:=X) (w0:=w0)).f=31:=rfl
theorem yN_first (t:Nat) (args:List SV) (H:Hp):(yp_first (X:=X) (w0:=w0)).fn t args H=match (if fnSel 32 args=true then spL X ((amFn 32 mPg).d H args) t H Cd_C1 (fun _=>false) R_C1 M_C1 (fun _=>mlO [none])
 else if fnSel 33 args=true then spL X ((amFn 33 mPg).d H args) t H Cd_C2 (fun _=>false) R_C2 M_C2 (fun _=>mlO [none]) else spL X ((amFn 34 mPg).d H args) t H Cd_C3 (fun _=>false) R_C3 M_C3 (fun _=>mlO [none])) with
  |some (c,e,fp)=>some (c,⟨e.val,[]⟩,fp)
  |none=>none:=rfl
noncomputable def yp_start:Sy.Spec Try.prog X w0:=specL' 35 Try.call35 ya_start Cd_st (fun _=>false) R_st M_st (fun _=>mlO [])
 (fun p _ _=>⟨rfl,rfl,rfl,nba_ok [] _ _⟩) (fun a _ h=>by cases h) (fun a _ h=>by cases h) (fun _=>rfl) y_start
theorem yF_start:(yp_start (X:=X) (w0:=w0)).f=35:=rfl
theorem yN_start (t:Nat) (args:List SV) (H:Hp):(yp_start (X:=X) (w0:=w0)).fn t args H=spL X (ya_start.d H args) t H Cd_st (fun _=>false) R_st M_st (fun _=>mlO []):=rfl
noncomputable def yg_mRun (N n:Nat) (h:CallsM Try.prog 36 (ya_mRun.args 0) ya_mRun.mem (Cd_rn N n) (fun _=>.tup []) (M_rn n)):Sy.Spec Try.prog X w0:=
 specM 36 Try.call36 ya_mRun (Cd_rn N n) (fun _=>.tup []) (M_rn n) (fun _ _=>rfl) (fun _ _=>rfl) (fun _ _=>mcW_nm _ _) h
theorem yF_mRun (N n:Nat) (h):(yg_mRun (X:=X) (w0:=w0) N n h).f=36:=rfl
theorem yN_mRun (N n:Nat) (h) (t:Nat) (args:List SV) (H:Hp):(yg_mRun (X:=X) (w0:=w0) N n h).fn t args H=spM (ya_mRun.d H args) t H (Cd_rn N n) (fun _=>.tup []) (M_rn n):=rfl
end
theorem nbL_cl (l:List Nb):((l.map Nb.c).all fun r=>r.all fun c=>c.names.isEmpty)=true:=by
 rw[List.all_eq_true]
 intro r hr
 obtain⟨a,_,rfl⟩:=List.mem_map.1 hr
 rfl
theorem naL_cl (l:List Na):((l.map Na.c).all fun r=>r.all fun c=>c.names.isEmpty)=true:=by
 rw[List.all_eq_true]
 intro r hr
 obtain⟨a,_,rfl⟩:=List.mem_map.1 hr
 rfl
theorem nb_dss (l:List Nb):toDss (l.map Nb.c)=some (l.map Nb.r):=toDss_of Nb.c (fun _=>rfl) l
theorem cI_dss (l:List Int):toDss (l.map cI)=some (l.map iD):=toDss_of cI (fun _=>rfl) l
theorem na_dss (l:List Na):toDss (l.map Na.c)=some (l.map Na.r):=toDss_of Na.c (fun x=>by
 simp only[Na.c,toDs,toD,zI,cI_dss,Na.r]) l
theorem nbL_fz (k:Nat) (z:List D) (e:List (List D)) (l:List Nb):(l.map Nb.c).map (fun r=>r.map (fzC k z e))=l.map Nb.c:=map_of Nb.c (fun _=>rfl) l
theorem naL_fz (k:Nat) (z:List D) (e:List (List D)) (l:List Na):(l.map Na.c).map (fun r=>r.map (fzC k z e))=l.map Na.c:=map_of Na.c (fun _=>rfl) l
def ms0 (P:Pg) (s:Sta) (fuel:Int):Ms:=⟨mn fuel 1048576,0,stCs P.g.c s.cs,stA P.g.a s.ar,2,0,[],0,0⟩
def clF (n:Nat) (P:Pg) (f:List UInt8) (va:List Va) (s:Sta) (fuel:Int):Ms:=if 1≤fuel then rnZ (rnA n P f va (ms0 P s fuel)) else ms0 P s fuel
def ouC (m:Ms):List C:=[.v (.int .i64 m.e),.v (.int .i64 m.v),.v (.string (bs m.f)),.v (.int .i64 m.al),.v (.int .i64 m.k),.d (.sl zNbD (m.cs.map Nb.r)),.d (.sl zNaD (m.ar.map Na.r))]
structure okR (N n:Nat) (P:Pg) (va:List Va) (s:Sta) (fuel:Int):Prop where
 p:okPg N P
 c:P.g.c.length≤1000000
 a:P.g.a.length≤1000000
 l:∀x∈P.g.a,1≤x.n∧x.n≤1048576
 sc:s.cs.length≤1000000
 sa:s.ar.length≤1000000
 v:va.length≤5000
 f:fuel<n
 n:n≤1000000000
theorem stA_len (p:List Gy) (s:List Na) (h:∀x∈p,x.n≤1048576):∀x∈stA p s,x.l.length≤1000000000:=by
 intro x hx
 obtain⟨y,hy,rfl⟩:=List.mem_map.1 hx
 obtain⟨g,hg,rfl⟩:=List.mem_map.1 hy
 have:=h g hg
 unfold stNa
 split
 ·dsimp only;rw[cpL_len];simp;omega
 ·simp;omega
theorem mn_le (x:Int):mn x 1048576≤x∧mn x 1048576≤1048576∧(1≤x→1≤mn x 1048576):=by unfold mn;split<;>omega
abbrev yc_Call (N:Nat) (n:Nat) (p:Pg) (f:List UInt8) (va:List Va) (s:Sta) (fuel:Int):Prop:=okR N n p va s fuel
abbrev yr_Call (N:Nat) (n:Nat) (p:Pg) (f:List UInt8) (va:List Va) (s:Sta) (fuel:Int):SV:=.agg (ouC (clF n p f va s fuel))
noncomputable abbrev ya_Call:ArgC ((Pg)×(List UInt8)×(List Va)×(Sta)×(Int)×Unit):=(acS (cPg) (acS (cStr) (acS (cVas) (acS (cSta) (acS (cInt .i64) ac0)))))
abbrev yq_Call (N:Nat) (n:Nat):Prop:=CallsY Try.prog 17 ya_Call (fun p:(Pg)×(List UInt8)×(List Va)×(Sta)×(Int)×Unit=>yc_Call N n p.1 p.2.1 p.2.2.1 p.2.2.2.1 p.2.2.2.2.1) (fun p:(Pg)×(List UInt8)×(List Va)×(Sta)×(Int)×Unit=>yr_Call N n p.1 p.2.1 p.2.2.1 p.2.2.2.1 p.2.2.2.2.1)
theorem yn_Call (N:Nat) (n:Nat):∀p:(Pg)×(List UInt8)×(List Va)×(Sta)×(Int)×Unit,((fun p:(Pg)×(List UInt8)×(List Va)×(Sta)×(Int)×Unit=>yr_Call N n p.1 p.2.1 p.2.2.1 p.2.2.2.1 p.2.2.2.2.1) p).names=[]:=by intro p;rfl
noncomputable def yg_Call {X:Ctx} {w0:World} (N:Nat) (n:Nat) (h:yq_Call N n):Sy.Spec Try.prog X w0:=specD 17 Try.call17 ya_Call (fun p:(Pg)×(List UInt8)×(List Va)×(Sta)×(Int)×Unit=>yc_Call N n p.1 p.2.1 p.2.2.1 p.2.2.2.1 p.2.2.2.2.1) (fun p:(Pg)×(List UInt8)×(List Va)×(Sta)×(Int)×Unit=>yr_Call N n p.1 p.2.1 p.2.2.1 p.2.2.2.1 p.2.2.2.2.1) (yn_Call N n) h
attribute [local go_sem] Fa.mem Fa.memO Fa.pan ML.ch ML.ren amCl_a amCl_d amCl_m amFn_a amFn_d amFn_m amFr_a amFr_d amFr_m bumpL cPg_d cPg_e cSta_d cSta_e cVas_d cVas_e chL clJ_eq faD_p faJ_some faK_some fa_eta fcN fnJ_v fnK_v fnSel_v frC frD_v frJ_eq lmH lmO mMc_d' mMc_e mMc_z mPg_d mPg_e mPg_z mSt_d mSt_e mSt_z mcC mcD_v mcR_d mcW mlO_nil mlO_none mlO_some ms_eta naL_cl naL_nm naL_rn nbL_cl nbL_nm nbL_rn nmX pgR pg_eta pnL_nil pnL_none pnL_some pnOL_f pnOL_t pnOf_f pnOf_t renQ renQC rnC spL_some specL'_f specL'_fn stR updL updX vrQ vsD_v wkR_me yF_first yF_mRun yF_start yN_first yN_mRun yN_start
set_option maxRecDepth 20000 in set_option maxHeartbeats 16000000 in
theorem y_Call (N:Nat) (n:Nat):yq_Call N n:=by
 rintro ⟨p,f,va,s,fuel,_u⟩ w fz xs hc hfz hl hx
 refine calls_toL Try.func17 rfl w fz [yp_first,yp_start,(yg_mRun N n (y_mRun N n))] [(2,[.fold 37 0 8,.fold 37 0 9]),(4,[.unr 37 0 8 1008,.unr 37 0 9 1009])] ya_Call (fun p:(Pg)×(List UInt8)×(List Va)×(Sta)×(Int)×Unit=>yr_Call N n p.1 p.2.1 p.2.2.1 p.2.2.2.1 p.2.2.2.2.1) _ xs hfz hl hx (Nat.le_of_ble_eq_true rfl) ?_
 clear hx hl hfz xs
 simp only[Try.f17]
 obtain⟨⟨pc,pa⟩,pf⟩:=p
 obtain⟨sc,sa⟩:=s
 obtain⟨hP,hc,ha,hl,hsc,hsa,hva,hfn,hn9⟩:=hc
 dsimp only at hc ha hl hsc hsa
 have hfn:fuel<n:=hfn
 have hfm:=mn_le fuel
 have hB:Cd_Bl ((⟨⟨pc,pa⟩,pf⟩:Pg),()):=⟨hc,ha,fun x hx=>(hl x hx).2⟩
 have hS:Cd_st ((⟨⟨pc,pa⟩,pf⟩:Pg),⟨sc,sa⟩,()):=⟨hB,fun x hx=>(hl x hx).1,hsc,hsa⟩
 by_cases h1:1≤fuel
 ·have hd:decide (1≤fuel)=true:=decide_eq_true h1
  obtain⟨m,hm⟩:∃m,rnZ (rnA n ⟨⟨pc,pa⟩,pf⟩ f va ⟨mn fuel 1048576,0,stCs pc sc,stA pa sa,2,0,[],0,0⟩)=m:=⟨_,rfl⟩
  have hr:clF n ⟨⟨pc,pa⟩,pf⟩ f va ⟨sc,sa⟩ fuel=m:=by unfold clF;rw[if_pos h1];exact hm
  simp only[↓eB,seval,go_sem,xt,↓e_fac4,hd,hm]
  refine⟨⟨by simp,by simpa using hP.l⟩,⟨rfl,hc⟩,⟨by simp,by simpa using ha⟩,hS,chk_ok (by kernel_rfl),⟨⟨hP,⟨by simp[stCs,blC],by simp[stA,blA],hc,ha⟩,stA_len pa sa (fun x hx=>(hl x hx).2),by have:=hfm.2.2 h1;show 0≤mn fuel 1048576;omega,by show mn fuel 1048576<(n:Int);omega⟩,hva,hn9⟩,?_⟩
  refine ret_with [.fz 1008,.fz 1009] ?_;simp only[↓eB,seval,go_sem,bne,yr_Call,hr,ouC,nb_dss,na_dss,nbL_fz,naL_fz,zNb,zNa]
 ·have hd:decide (1≤fuel)=false:=decide_eq_false h1
  have hr:clF n ⟨⟨pc,pa⟩,pf⟩ f va ⟨sc,sa⟩ fuel=⟨mn fuel 1048576,0,stCs pc sc,stA pa sa,2,0,[],0,0⟩:=by unfold clF;rw[if_neg h1];rfl
  simp only[↓eB,seval,go_sem,xt,↓e_fac4,hd]
  refine⟨⟨by simp,by simpa using hP.l⟩,⟨rfl,hc⟩,⟨by simp,by simpa using ha⟩,hS,chk_ok (by kernel_rfl),?_⟩
  refine ret_with [.fz 1008,.fz 1009] ?_;simp only[↓eB,seval,go_sem,bne,yr_Call,hr,ouC,nb_dss,na_dss,nbL_fz,naL_fz,zNb,zNa]
end Go.Proofs.Ytjnnmindcbgjhaa
namespace Go.Proofs.Ytjnnmindcbgjhaa
open Go Go.Sy Go.RowKit
abbrev i64R (n:Int):Prop := -9223372036854775808≤n∧n≤9223372036854775807
def OkSb (n:Nat) (s:Sm):Bool:=decide (s.e.dp<n)&&decide (s.f.dp<n)&&decide (s.cd.dp<n)&&s.ar.all (fun a=>decide (a.e.dp<n))&&decide (s.ar.length≤5000)
theorem OkSb_ok {n:Nat} {s:Sm} (h:OkSb n s=true):OkS n s:=by
 simp only[OkSb,Bool.and_eq_true,decide_eq_true_eq,List.all_eq_true]at h
 exact⟨h.1.1.1.1,h.1.1.1.2,h.1.1.2,h.1.2,h.2⟩
def okBb (n:Nat):Nat→List Sm→Bool
 |0,_=>false
 |m+1,l=>decide (l.length≤5000)&&l.all fun s=>OkSb n s&&okBb n m s.th&&okBb n m s.el
theorem okBb_ok {n:Nat}:∀{m:Nat} {l:List Sm},okBb n m l=true→okB n m l
 |0,l,h=>by cases h
 |m+1,l,h=>by
  simp only[okBb,Bool.and_eq_true,decide_eq_true_eq,List.all_eq_true]at h
  exact⟨h.1,fun s hs=>⟨OkSb_ok (h.2 s hs).1.1,okBb_ok (h.2 s hs).1.2,okBb_ok (h.2 s hs).2⟩⟩
def okFb (f:Fn):Bool:=decide (f.ps.length≤5000)&&decide (f.ls.length≤5000)
theorem okFb_ok {f:Fn} (h:okFb f=true):okF f:=by
 simp only[okFb,Bool.and_eq_true,decide_eq_true_eq]at h;exact h
def okPb (N M:Nat) (P:Pg):Bool:=decide (P.fs.length≤1000000)&&P.fs.all fun f=>okFb f&&okBb N M f.body
theorem okPb_ok {N M:Nat} {P:Pg} (h:okPb N M P=true):okPg N P:=by
 simp only[okPb,Bool.and_eq_true,decide_eq_true_eq,List.all_eq_true]at h
 exact⟨h.1,fun f hf=>⟨okFb_ok (h.2 f hf).1,M,okBb_ok (h.2 f hf).2⟩⟩
theorem okUn_f {n m:Nat} {gl:List UInt8→List Gi} {s t:List UInt8} (h1:(s==gloB)=false) (h2:smallB t) (h3:(okFb (funF t).1&&okBb n m (funF t).1.body)=true):okUn n m gl ⟨s,t⟩:=by
 simp only[Bool.and_eq_true]at h3
 exact⟨fun h=>(by rw[h1]at h;cases h),fun _=>h2,fun _=>okFb_ok h3.1,fun _=>okBb_ok h3.2⟩
theorem okUn_g {n m:Nat} {gl:List UInt8→List Gi} {t:List UInt8} (h1:glO t (gl t)) (h2:onceL (giV (gl t)).ns) (h3:(giV (gl t)).c.length≤5000) (h4:(giV (gl t)).a.length≤5000):okUn n m gl ⟨gloB,t⟩:=by
 have hb:(gloB==gloB)=true:=by decide
 exact⟨fun _=>⟨h1,h2,h3,h4⟩,fun h=>(by rw[hb]at h;cases h),fun h=>(by rw[hb]at h;cases h),fun h=>(by rw[hb]at h;cases h)⟩
theorem once_nd {l:List (List UInt8)} (h:l.Nodup):onceL l:=by
 intro i j hj hi
 have hjl:j<l.length:=by omega
 simp only[List.getD,List.getElem?_eq_getElem hi,List.getElem?_eq_getElem hjl,Option.getD_some]
 have:=List.pairwise_iff_getElem.1 h j i hjl hi hj
 simpa using this
theorem mUn_dr (s t:List UInt8):mUn.d [.v (.string (bs s)),.v (.string (bs t))]=some ⟨s,t⟩:=rowMOf_d unc_inj ⟨s,t⟩
theorem cSta_n:cSta.d (.agg [.v (.slice none 0 0),.v (.slice none 0 0)])=some ⟨[],[]⟩:=codOf_le (e:=fun p:Sta=>.agg (stR p)) (a:=⟨[],[]⟩) ⟨.inr ⟨rfl,rfl⟩,.inr ⟨rfl,rfl⟩,trivial⟩
theorem cVas_n:cVas.d (.one (.v (.slice none 0 0)))=some []:=codOf_le (e:=fun l:List Va=>.one (.d (.sl zVaD (l.map Va.r)))) (a:=[]) (.inr ⟨rfl,rfl⟩)
theorem cVas_d1 (p:Bool) (n:Int) (s:List UInt8):cVas.d (.one (.d (.sl [.v (.bool false),.v (.int .i64 0),.v (.string (bs []))] [[.v (.bool p),.v (.int .i64 n),.v (.string (bs s))]])))=some [⟨p,n,s⟩]:=cVas_d [⟨p,n,s⟩]
theorem cVas_d2 (p p':Bool) (n n':Int) (s s':List UInt8):cVas.d (.one (.d (.sl [.v (.bool false),.v (.int .i64 0),.v (.string (bs []))] [[.v (.bool p),.v (.int .i64 n),.v (.string (bs s))],[.v (.bool p'),.v (.int .i64 n'),.v (.string (bs s'))]])))=some [⟨p,n,s⟩,⟨p',n',s'⟩]:=cVas_d [⟨p,n,s⟩,⟨p',n',s'⟩]
abbrev yc_one (n:Nat) (m:Nat) (gl:List UInt8→List Gi) (t:List UInt8) (g:List UInt8):Prop:=okUn n m gl ⟨[102],t⟩∧okUn n m gl ⟨gloB,g⟩
abbrev yr_one (n:Nat) (m:Nat) (gl:List UInt8→List Gi) (t:List UInt8) (g:List UInt8):SV:=.agg (pqR (prF m gl [⟨[102],t⟩,⟨gloB,g⟩]))
noncomputable abbrev ya_one:ArgC ((List UInt8)×(List UInt8)×Unit):=(acS (cStr) (acS (cStr) ac0))
abbrev yq_one (n:Nat) (m:Nat) (gl:List UInt8→List Gi):Prop:=CallsY Try.prog 22 ya_one (fun p:(List UInt8)×(List UInt8)×Unit=>yc_one n m gl p.1 p.2.1) (fun p:(List UInt8)×(List UInt8)×Unit=>yr_one n m gl p.1 p.2.1)
theorem yn_one (n:Nat) (m:Nat) (gl:List UInt8→List Gi):∀p:(List UInt8)×(List UInt8)×Unit,((fun p:(List UInt8)×(List UInt8)×Unit=>yr_one n m gl p.1 p.2.1) p).names=[]:=by intro p;rfl
noncomputable def yg_one {X:Ctx} {w0:World} (n:Nat) (m:Nat) (gl:List UInt8→List Gi) (h:yq_one n m gl):Sy.Spec Try.prog X w0:=specD 22 Try.call22 ya_one (fun p:(List UInt8)×(List UInt8)×Unit=>yc_one n m gl p.1 p.2.1) (fun p:(List UInt8)×(List UInt8)×Unit=>yr_one n m gl p.1 p.2.1) (yn_one n m gl) h
attribute [local go_sem] Un.c mUn_dr mUn_e mUn_z pqR yg_Prog zUc
set_option maxRecDepth 20000 in set_option maxHeartbeats 16000000 in
theorem y_one (n:Nat) (m:Nat) (gl:List UInt8→List Gi):yq_one n m gl:=by
 rintro ⟨t,g,_u⟩ w fz xs hc hfz hl hx
 refine calls_toL Try.func22 rfl w fz [(yg_Prog n m gl (y_Prog n m gl))] [] ya_one (fun p:(List UInt8)×(List UInt8)×Unit=>yr_one n m gl p.1 p.2.1) _ xs hfz hl hx (Nat.le_of_ble_eq_true rfl) ?_
 clear hx hl hfz xs
 simp only[Try.f22]
 obtain⟨h1,h2⟩:=hc
 have hg:gloB=[103,108,111,98,97,108,115]:=rfl
 rw[hg]at h2
 simp only[↓eB,seval,go_sem]
 refine⟨⟨Nat.le_of_ble_eq_true rfl,fun u hu=>?_⟩,?_⟩
 ·simp only[List.mem_cons,List.not_mem_nil,or_false]at hu
  rcases hu with rfl|rfl
  ·exact h1
  ·exact h2
 refine ret_with [] ?_;simp only[↓eB,seval,go_sem,bne,yr_one,hg]
def kT:List UInt8:=[102,110,32,102,40,120,41,32,123,32,99,32,61,32,120,59,32,114,101,116,117,114,110,32,49,32,47,32,120,59,32,125]
def kG:List UInt8:=[99,101,108,108,32,99,59]
def kgl:List UInt8→List Gi:=fun _=>[.c [99]]
def kP:Pg:=⟨⟨[[99]],[]⟩,[⟨[102],[⟨[120],false⟩],[],[(.mk 0 [99] [] (.mk 1 0 [120] .nil .nil) .nil .nil [] [] [] 0),(.mk 9 [] [] (.mk 5 0 [] (.mk 0 1 [] .nil .nil) (.mk 1 0 [120] .nil .nil)) .nil .nil [] [] [] 1)]⟩]⟩
theorem kP_e:prF 8 kgl [⟨[102],kT⟩,⟨gloB,kG⟩]=kP:=by kernel_rfl
theorem kP_u:∀u∈[(⟨[102],kT⟩:Un),⟨gloB,kG⟩],okUn 50 8 kgl u:=by
 intro u hu
 simp only[List.mem_cons,List.not_mem_nil,or_false]at hu
 rcases hu with rfl|rfl
 ·exact okUn_f (by decide) (by have e:kT.length=32:=rfl;unfold smallB;omega) (by kernel_rfl)
 ·refine okUn_g ⟨by have e:kG.length=7:=rfl;unfold smallB;omega,?_,by decide,_,(by kernel_rfl:rxT kG=([⟨0,[99,101,108,108],0⟩,⟨0,[99],5⟩,⟨2,[59],6⟩],0,0)),rfl⟩ (once_nd (by decide)) (by decide) (by decide)
  intro g hg
  simp only[kgl,List.mem_singleton]at hg
  subst hg
  exact gl_nm _ (by decide)
theorem kP_r (va:List Va) (f:Int) (hv:va.length≤5000) (hf:f<10):okR 50 10 kP va ⟨[],[]⟩ f:=⟨okPb_ok (M:=8) (by kernel_rfl),by decide,by decide,(by intro x hx;cases hx),by decide,by decide,hv,hf,by decide⟩
theorem kPb:(blC kP.g.c).length=1:=rfl
theorem kP_a:clF 10 kP [102] [⟨false,0,[]⟩] ⟨[],[]⟩ 9=⟨7,1,[⟨[99],0⟩],[],1,0,[102],1,0⟩:=by kernel_rfl
theorem kP_b:clF 10 kP [102] [⟨false,1,[]⟩] ⟨[],[]⟩ 9=⟨7,0,[⟨[99],1⟩],[],0,1,[],0,0⟩:=by kernel_rfl
theorem kP_c:clF 10 kP [103] [] ⟨[],[]⟩ 9=⟨9,0,[⟨[99],0⟩],[],1,0,[103],-1,4⟩:=by kernel_rfl
abbrev yc_known20:Prop:=True
abbrev yr_known20:SV:=.one (.v (.bool true))
noncomputable abbrev ya_known20:ArgC (Unit):=ac0
abbrev yq_known20:Prop:=CallsY Try.prog 11 ya_known20 (fun p:Unit=>yc_known20 ) (fun p:Unit=>yr_known20 )
theorem yn_known20:∀p:Unit,((fun p:Unit=>yr_known20 ) p).names=[]:=by intro p;rfl
set_option maxRecDepth 20000 in set_option maxHeartbeats 32000000 in
theorem y_known20:yq_known20:=by
 rintro ⟨_u⟩ w fz xs hc hfz hl hx
 refine calls_toL Try.func11 rfl w fz [(yg_Prog 50 8 kgl (y_Prog 50 8 kgl)),(yg_Call 50 10 (y_Call 50 10)),yp_Blank] [(2,[.flag 12]),(3,[.flag 17])] ya_known20 (fun p:Unit=>yr_known20 ) _ xs hfz hl hx (Nat.le_of_ble_eq_true rfl) ?_
 clear hx hl hfz xs
 simp only[Try.f11]
 have hg:gloB=[103,108,111,98,97,108,115]:=rfl
 have he:=kP_e
 have hu:=kP_u
 have hr:=kP_r
 rw[hg]at he hu
 simp only[kT,kG]at he hu
 simp only[↓eB,seval,go_sem,yg_Call,cPg_e,cPg_d,cSta_e,cSta_d,cSta_n,cVas_e,cVas_d,cVas_n,cVas_d1,cVas_d2,pgR,stR,ouC,amCl_d,amCl_a,amCl_m,clJ_eq,lmH,lmO,chL,ML.ch,mlO_none,mlO_some,mlO_nil,updL,updX,nmX,xt,bumpL,ML.ren,rnC,renQ,renQC,vrQ,spL_some,fcN,↓e_fac4,yF_Blank,yN_Blank,R_Bl,M_Bl,nbL_rn,naL_rn,nbL_nm,naL_nm,he,kP_a,kP_b,kP_c,pg_eta,kPb,Nb.r]
 refine⟨⟨Nat.le_of_ble_eq_true rfl,hu⟩,hr _ 9 (Nat.le_of_ble_eq_true rfl) (by decide),hr _ 9 (Nat.le_of_ble_eq_true rfl) (by decide),hr _ 9 (Nat.le_of_ble_eq_true rfl) (by decide),⟨by decide,by decide,(by intro x hx;cases hx)⟩,?_⟩
 refine ret_with [] ?_;simp only[↓eB,seval,go_sem,bne,yr_known20]
noncomputable def yp_known20 {X:Ctx} {w0:World}:Sy.Spec Try.prog X w0:=specD 11 Try.call11 ya_known20 (fun p:Unit=>yc_known20 ) (fun p:Unit=>yr_known20 ) yn_known20 y_known20
end Go.Proofs.Ytjnnmindcbgjhaa
