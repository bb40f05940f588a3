/- Programs of several units, walked. Conditions: the texts are small and not too deep, the globals' texts are known. -/
import Derived.Test.YtjnnmindcbgjhabPg1
import Derived.Test.YtjnnmindcbgjhabGq
set_option linter.unusedVariables false
set_option linter.unusedSimpArgs false
namespace Go.Proofs.Ytjnnmindcbgjhab
open Go Go.Sy Go.RowKit
def gtB (a b:List UInt8):Bool:=!(Op.bytesLess a b||a==b)
theorem gtB_e (a b:List UInt8):gtB a b = !(Op.bytesLess a b||a==b):=rfl
def fnZ:Fn:=⟨[],[],[],[]⟩
def insP (fs:List Fn) (nm:List UInt8):Nat→Nat
 |0=>0
 |k+1=>if gtB (fs.getD k fnZ).name nm=true then insP fs nm k else k+1
def insF (fs:List Fn) (f:Fn):List Fn:=fs.take (insP fs f.name fs.length)++f::fs.drop (insP fs f.name fs.length)
def upP (m:Nat) (gl:List UInt8→List Gi) (P:Pg) (u:Un):Pg:=
 if (u.s==gloB)=true then ⟨giV (gl u.t),P.fs⟩
 else if ((funF u.t).2.2 != 0)=true then P
 else if ((resF (funF u.t).1 u.s m).2.2 != 0)=true then P
 else ⟨P.g,insF P.fs (resF (funF u.t).1 u.s m).1⟩
def prF (m:Nat) (gl:List UInt8→List Gi) (l:List Un):Pg:=l.foldl (upP m gl) ⟨⟨[],[]⟩,[]⟩
theorem prF_s {m:Nat} {gl:List UInt8→List Gi} {l:List Un} {i:Nat} {u:Un} (h:l[i]?=some u):prF m gl (l.take (i+1))=upP m gl (prF m gl (l.take i)) u:=by
 unfold prF
 rw[List.take_add_one,h];simp
theorem insP_le (fs:List Fn) (nm:List UInt8):∀k,insP fs nm k≤k
 |0=>Nat.le_refl _
 |k+1=>by
  simp only[insP]
  split
  ·have:=insP_le fs nm k;omega
  ·exact Nat.le_refl _
theorem insF_len (fs:List Fn) (f:Fn):(insF fs f).length=fs.length+1:=by
 have:=insP_le fs f.name fs.length
 simp[insF];omega
theorem upP_len (m:Nat) (gl:List UInt8→List Gi) (P:Pg) (u:Un):(upP m gl P u).fs.length≤P.fs.length+1:=by
 unfold upP
 split
 ·exact Nat.le_succ _
 split
 ·exact Nat.le_succ _
 split
 ·exact Nat.le_succ _
 ·exact Nat.le_of_eq (insF_len _ _)
theorem prF_len (m:Nat) (gl:List UInt8→List Gi) (l:List Un):∀i,i≤l.length→(prF m gl (l.take i)).fs.length≤i
 |0,_=>Nat.le_refl _
 |i+1,h=>by
  have hx:l[i]?=some l[i]:=List.getElem?_eq_getElem h
  rw[prF_s hx]
  have h1:=upP_len m gl (prF m gl (l.take i)) l[i]
  have h2:=prF_len m gl l i (by omega)
  omega
theorem un_nms (l:List Un):(l.map Un.c).flatMap (fun r=>r.flatMap C.names)=[]:=List.flatMap_eq_nil_iff.2 fun p hp=>by
 obtain⟨a,_,rfl⟩:=List.mem_map.1 hp
 rfl
theorem un_fzz (k:Nat) (z:List D) (e:List (List D)) (l:List Un):(l.map Un.c).map (fun r=>r.map (fzC k z e))=l.map Un.c:=map_of Un.c (fun _=>rfl) l
theorem fnr_oD (l:List Fn):(l.map Fn.r).map (fun r=>r.map oD)=l.map Fn.c:=by
 rw[List.map_map]
 exact List.map_congr_left fun f _=>rfl
theorem fnC_st (l:List Fn):rowsStor (l.map Fn.c):=by
 intro r h c hc
 obtain⟨f,_,rfl⟩:=List.mem_map.1 h
 simp only[Fn.c,List.mem_cons,List.not_mem_nil,or_false]at hc
 rcases hc with rfl|rfl|rfl|rfl<;>rfl
theorem fnC_ds (l:List Fn):toDss (l.map Fn.c)=some (l.map Fn.r):=toDss_of Fn.c (fun _=>rfl) l
theorem fnC_nms (l:List Fn):(l.map Fn.c).flatMap (fun r=>r.flatMap C.names)=[]:=List.flatMap_eq_nil_iff.2 fun p hp=>by
 obtain⟨a,_,rfl⟩:=List.mem_map.1 hp
 rfl
theorem fn_tk (l:List Fn) (p:Nat):List.take p (l.map Fn.r)=(l.take p).map Fn.r:=(List.map_take ..).symm
theorem fn_dr (l:List Fn) (p:Nat):List.take (l.length-p) (List.drop p (l.map Fn.r))=(l.drop p).map Fn.r:=by
 rw[List.map_drop]
 exact List.take_of_length_le (by simp)
theorem fn_dr0 (l:List Fn):List.take l.length (l.map Fn.r)=l.map Fn.r:=List.take_of_length_le (by simp)
theorem fn_h0 (l:List Fn):∃s b c d,(l.map Fn.r).getD 0 [D.v (Value.string (bs [])),D.v (Value.slice none 0 0),D.v (Value.slice none 0 0),D.v (Value.slice none 0 0)]=[.v (.string (bs s)),b,c,d]:=by
 cases l with
 |nil=>exact⟨_,_,_,_,rfl⟩
 |cons f l=>exact⟨_,_,_,_,rfl⟩
theorem insF_c (l:List Fn) (f:Fn) {p:Nat} (h:insP l f.name l.length=p):(l.take p).map Fn.c++f.c::(l.drop p).map Fn.c=(insF l f).map Fn.c:=by
 unfold insF;rw[h];simp
structure okUn (n m:Nat) (gl:List UInt8→List Gi) (u:Un):Prop where
 g:(u.s==gloB)=true→glO u.t (gl u.t)∧onceL (giV (gl u.t)).ns∧(giV (gl u.t)).c.length≤5000∧(giV (gl u.t)).a.length≤5000
 s:(u.s==gloB)=false→smallB u.t
 f:(u.s==gloB)=false→okF (funF u.t).1
 b:(u.s==gloB)=false→okB n m (funF u.t).1.body
def pqR (P:Pg):List C:=[.d (.sl zSqD (P.g.c.map cSd)),.d (.sl zGyD (P.g.a.map Gy.r)),.d (.sl zFn (P.fs.map Fn.r))]
theorem un_at {l:List Un} {i:Nat} {u:Un} (h:l[i]?=some u) (z:List C):(l.map Un.c).getD i z=u.c:=by simp[List.getD,h]
theorem fnD_at {l:List Fn} {k:Nat} (h:k<l.length) (z:List D):(l.map Fn.r).getD k z=(l.getD k fnZ).r:=by simp[List.getD,h]
abbrev yc_Prog (n:Nat) (m:Nat) (gl:List UInt8→List Gi) (l:List Un):Prop:=l.length≤10∧∀u∈l,okUn n m gl u
abbrev yr_Prog (n:Nat) (m:Nat) (gl:List UInt8→List Gi) (l:List Un):SV:=.agg (pqR (prF m gl l))
abbrev ym_Prog (n:Nat) (m:Nat) (gl:List UInt8→List Gi) (l:List Un):List (Option MV):=[some (zUc,l.map Un.c)]
noncomputable abbrev ya_Prog:ArgM ((List Un)×Unit):=(amS (mUn) am0)
abbrev yq_Prog (n:Nat) (m:Nat) (gl:List UInt8→List Gi):Prop:=CallsM Try.prog 5 ((ya_Prog).args 0) (ya_Prog).mem (fun p:(List Un)×Unit=>yc_Prog n m gl p.1) (fun p:(List Un)×Unit=>yr_Prog n m gl p.1) (fun p:(List Un)×Unit=>ym_Prog n m gl p.1)
theorem yl_Prog (n:Nat) (m:Nat) (gl:List UInt8→List Gi):∀p,(fun p:(List Un)×Unit=>yc_Prog n m gl p.1) p→lenM ((ya_Prog).mem p).length ((fun p:(List Un)×Unit=>ym_Prog n m gl p.1) p)=true:=by intro p _;rfl
theorem yo_Prog (n:Nat) (m:Nat) (gl:List UInt8→List Gi):∀p,(fun p:(List Un)×Unit=>yc_Prog n m gl p.1) p→outV ((fun p:(List Un)×Unit=>ym_Prog n m gl p.1) p).length ((fun p:(List Un)×Unit=>yr_Prog n m gl p.1) p)=true:=by intro p _;first|rfl|exact ex_out _ _|exact cd_out _ _|(simp[outV,outC,ex_out,cd_out];done)
theorem yn_Prog (n:Nat) (m:Nat) (gl:List UInt8→List Gi):∀p,(fun p:(List Un)×Unit=>yc_Prog n m gl p.1) p→∀q,some q∈(fun p:(List Un)×Unit=>ym_Prog n m gl p.1) p→∀r∈q.2,∀c∈r,c.names=[]:=by intro p _;exact mem_us _
noncomputable def yg_Prog {X:Ctx} {w0:World} (n:Nat) (m:Nat) (gl:List UInt8→List Gi) (h:yq_Prog n m gl):Sy.Spec Try.prog X w0:=specM 5 Try.call5 (ya_Prog) (fun p:(List Un)×Unit=>yc_Prog n m gl p.1) (fun p:(List Un)×Unit=>yr_Prog n m gl p.1) (fun p:(List Un)×Unit=>ym_Prog n m gl p.1) (yl_Prog n m gl) (yo_Prog n m gl) (yn_Prog n m gl) h
attribute [local go_sem] pqR zFn
set_option maxRecDepth 20000 in set_option maxHeartbeats 16000000 in
theorem y_Prog (n:Nat) (m:Nat) (gl:List UInt8→List Gi):yq_Prog n m gl:=by
 rintro ⟨l,_u⟩ w M I lab fz xs hc hA hl hx
 refine calls_toML Try.func5 rfl ((ya_Prog).mem ⟨l,_u⟩) w M I lab fz [yp_Func,(yg_resolve n m (y_resolve n m))] [] ((ya_Prog).args 0 ⟨l,_u⟩) ((fun p:(List Un)×Unit=>ym_Prog n m gl p.1) ⟨l,_u⟩) ((fun p:(List Un)×Unit=>yr_Prog n m gl p.1) ⟨l,_u⟩) xs hA hl hx (fun v hv k hk=>by have:=(ya_Prog).an 0 ⟨l,_u⟩ v hv k hk;omega) (Nat.le_of_ble_eq_true rfl) (Nat.le_of_ble_eq_true rfl) ?_
 clear hx hl hA xs
 simp only[Try.f5]
 obtain⟨hl,hu⟩:=hc
 have hl:l.length≤10:=hl
 simp only[↓eB,seval,go_sem,yp_Func,yg_resolve,yg_rGlobals,yp_Check,cFn_e,cFn_d,Fn.c,fn_eta,pairO_n,pairN_o,spFn_n,mUn_e,mUn_z,Un.c,cGl_e,cGl_d,Gl.cc]
 refine loop_ok (Y:=Nat×Pg) (fun z=>z.1≤l.length∧z.2=prF m gl (l.take z.1))
  (fun z=>⟨[(0,true,.one (.s 0)),(2,true,.one (.p 2 0 0)),(3,true,.one (.p 3 0 0)),(4,true,.one (.v (.int .i64 (z.1:Int))))],
   [(0,.vec 0 zUc (l.map Un.c)),(2,.vec 0 fl3 [[.v (.slice none 0 0),.v (.slice none 0 0),.v (.slice none 0 0)]]),(3,.vec 0 fl3 [pqR z.2])]⟩)
  (fun z=>l.length-z.1) (0,⟨⟨[],[]⟩,[]⟩) ⟨Nat.zero_le _,rfl⟩ ?_ ?_
 ·refine to_with [.nilr 3 0 0 1000 zSr,.fz 1000,.nilr 3 0 1 1001 zGc,.fz 1001,.nilr 3 0 2 1002 zFc,.fz 1002] ?_;simp only[↓eB,seval,go_sem,fl3,zFc,zSr,zGc,zSqD,zGyD,un_nms,un_fzz]
 ·rintro ⟨i,P⟩ ⟨hi,hP⟩
  dsimp only at hi hP
  have w1:IntKind.i64.wrap ((i:Int)+1)=((i+1:Nat):Int):=by rw[wrap_i64 (by omega) (by omega)];rfl
  have hPl:P.fs.length≤i:=by rw[hP];exact prF_len m gl l i hi
  cases hx:l[i]? with
  |none=>
   refine vc_ok [yp_Func,yg_resolve n m (y_resolve n m)] [] _ _ _ ?_
   have g2:=List.getElem?_eq_none_iff.1 hx
   have g1:=natI_ge g2
   rw[List.take_of_length_le g2]at hP
   subst hP
   simp only[↓eB,seval,go_sem,yp_Func,yg_resolve,yg_rGlobals,yp_Check,cFn_e,cFn_d,Fn.c,fn_eta,pairO_n,pairN_o,spFn_n,mUn_e,mUn_z,Un.c,cGl_e,cGl_d,Gl.cc,g1]
   refine⟨(by decide),?_⟩
   refine ret_with [] ?_;simp only[↓eB,seval,go_sem,bne,yr_Prog,ym_Prog,un_nms]
  |some u=>
   have hlt:=(List.getElem?_eq_some_iff.1 hx).1
   have g1:=natI_lt hlt
   have hut:=un_at hx
   have hP2:=prF_s (m:=m) (gl:=gl) hx
   rw[← hP]at hP2
   obtain⟨kg,ks,kf,kb⟩:=hu u (List.mem_of_getElem? hx)
   obtain⟨us,ut⟩:=u
   dsimp only at kg ks kf kb
   refine vc_ok [yp_Func,yg_resolve n m (y_resolve n m),yg_rGlobals (gl ut) (y_rGlobals (gl ut)),yp_Check] [] _ _ _ ?_
   cases hg:(us==gloB) with
   |true=>
    have hg2:=hg
    simp only[gloB]at hg
    simp only[↓eB,seval,go_sem,yp_Func,yg_resolve,yg_rGlobals,yp_Check,cFn_e,cFn_d,Fn.c,fn_eta,pairO_n,pairN_o,spFn_n,mUn_e,mUn_z,Un.c,cGl_e,cGl_d,Gl.cc,g1,w1,hut,hg]
    obtain⟨ko,kn,kc,ka⟩:=kg hg2
    have hup:upP m gl P ⟨us,ut⟩=⟨giV (gl ut),P.fs⟩:=by unfold upP;exact if_pos hg2
    rw[hup]at hP2
    have hil:(i:Int)<(l.length:Int):=by omega
    refine⟨hil,hlt,hlt,hil,hlt,hlt,⟨ko.sm,ko.o,ko.n,ko.t⟩,⟨kc,ka,kn⟩,(by decide),(i+1,⟨giV (gl ut),P.fs⟩),⟨hlt,hP2.symm⟩,(by dsimp only;omega),to_with [] ?_⟩
    simp only[↓eB,seval,go_sem,fl3,un_nms]
   |false=>
    have hil:(i:Int)<(l.length:Int):=by omega
    obtain⟨⟨F,a1,r1⟩,hF⟩:∃x,funF ut=x:=⟨_,rfl⟩
    obtain⟨⟨G,a2,r2⟩,hR⟩:∃x,resF F us m=x:=⟨_,rfl⟩
    have hs:=ks hg
    have h1:=kf hg
    have h2:=kb hg
    rw[hF]at h1 h2
    dsimp only at h1 h2
    have hg2:=hg
    simp only[gloB]at hg
    cases e1:(r1==0) with
    |false=>
     have e1':(r1 != 0)=true:=by simp[bne,e1]
     have hup:upP m gl P ⟨us,ut⟩=P:=by unfold upP;rw[if_neg (by rw[hg2];decide),hF];exact if_pos e1'
     rw[hup]at hP2
     simp only[↓eB,seval,go_sem,yp_Func,yg_resolve,yg_rGlobals,yp_Check,cFn_e,cFn_d,Fn.c,fn_eta,pairO_n,pairN_o,spFn_n,mUn_e,mUn_z,Un.c,cGl_e,cGl_d,Gl.cc,g1,w1,hut,hg,hF,e1,e1']
     try simp only[impB,impN]
     repeat' first|exact ck|with_reducible apply And.intro|intro _
     all_goals try first|exact hs|exact hil|exact hlt|(rename_i h;first|exact oI h|exact nah h)|(rename_i _ h _ g;exact sL h g)|decide|omega
     refine⟨(i+1,P),⟨hlt,hP2.symm⟩,by dsimp only;omega,to_with [] ?_⟩
     simp only[↓eB,seval,go_sem,fl3,un_nms,Fn.c,zFc]
    |true=>
     have e1':(r1 != 0)=false:=by simp[bne,e1]
     cases e2:(r2==0) with
     |false=>
      have e2':(r2 != 0)=true:=by simp[bne,e2]
      have hup:upP m gl P ⟨us,ut⟩=P:=by
       unfold upP;rw[if_neg (by rw[hg2];decide),hF]
       dsimp only
       rw[if_neg (by rw[e1'];decide),hR];exact if_pos e2'
      rw[hup]at hP2
      simp only[↓eB,seval,go_sem,yp_Func,yg_resolve,yg_rGlobals,yp_Check,cFn_e,cFn_d,Fn.c,fn_eta,pairO_n,pairN_o,spFn_n,mUn_e,mUn_z,Un.c,cGl_e,cGl_d,Gl.cc,g1,w1,hut,hg,hF,hR,e1,e1',e2,e2']
      try simp only[impB,impN]
      repeat' first|exact ck|with_reducible apply And.intro|intro _
      all_goals try first|exact hs|exact h1|exact h2|exact hil|exact hlt|(rename_i h;first|exact oI h|exact nah h)|(rename_i _ h _ g;exact sL h g)|decide|omega
      refine⟨(i+1,P),⟨hlt,hP2.symm⟩,by dsimp only;omega,to_with [] ?_⟩
      simp only[↓eB,seval,go_sem,fl3,un_nms,Fn.c,zFc]
     |true=>
      have e2':(r2 != 0)=false:=by simp[bne,e2]
      have hup:upP m gl P ⟨us,ut⟩=⟨P.g,insF P.fs G⟩:=by
       unfold upP;rw[if_neg (by rw[hg2];decide),hF]
       dsimp only
       rw[if_neg (by rw[e1'];decide),hR];exact if_neg (by rw[e2'];decide)
      rw[hup]at hP2
      simp only[↓eB,seval,go_sem,yp_Func,yg_resolve,yg_rGlobals,yp_Check,cFn_e,cFn_d,Fn.c,fn_eta,pairO_n,pairN_o,spFn_n,mUn_e,mUn_z,Un.c,cGl_e,cGl_d,Gl.cc,g1,w1,hut,hg,hF,hR,e1,e1',e2,e2']
      have hil3:(i:Int)<9223372036854775807:=by omega
      refine⟨hil,hlt,hlt,hil,hlt,hlt,hs,hil,hlt,hlt,⟨h1,h2⟩,chk_ok (by kernel_rfl),?_⟩
      refine loop_ok (Y:=Nat) (fun k=>k≤P.fs.length∧insP P.fs G.name P.fs.length=insP P.fs G.name k)
       (fun k=>⟨[(0,true,.one (.s 0)),(2,true,.one (.p 2 0 0)),(3,true,.one (.p 3 0 0)),(4,true,.one (.v (.int .i64 (i:Int)))),(8,true,.one (.p 8 0 0)),(11,true,.one (.v (.int .i64 (k:Int))))],
        [(0,.vec 0 zUc (l.map Un.c)),(2,.vec 0 fl3 [[.v (.slice none 0 0),.v (.slice none 0 0),.v (.slice none 0 0)]]),(3,.vec 0 fl3 [pqR P]),(8,.vec 0 fl4 [G.c])]⟩)
       (fun k=>k) P.fs.length ⟨Nat.le_refl _,rfl⟩ ?_ ?_
      ·refine to_with [] ?_;simp only[↓eB,seval,go_sem,fl3,fl4,un_nms,Fn.c,zFc]
      ·rintro k ⟨hk,hJ⟩
       refine vc_ok [yp_Func,yg_resolve n m (y_resolve n m)] [] _ _ _ ?_
       cases k with
       |zero=>
        obtain⟨s0,b0,c0,d0,h00⟩:=fn_h0 P.fs
        have hins:=insF_c P.fs G (p:=0) hJ
        simp only[List.take_zero,List.drop_zero,List.map_nil,List.nil_append,Fn.c]at hins
        have hcs:=fnC_st P.fs
        have hcs2:=fnC_st (G::P.fs)
        simp only[Fn.c,List.map_cons]at hcs hcs2
        simp only[↓eB,seval,go_sem,yp_Func,yg_resolve,yg_rGlobals,yp_Check,cFn_e,cFn_d,Fn.c,fn_eta,pairO_n,pairN_o,spFn_n,mUn_e,mUn_z,Un.c,cGl_e,cGl_d,Gl.cc,fl3,fl4,h00,w1,fnr_oD,fn_tk,fn_dr,List.take_length]
        refine⟨chk_ok (by kernel_rfl),Int.le_refl _,⟨(fun q h=>by cases h;rfl),hcs,(by omega),(by omega)⟩,⟨Nat.succ_pos _,(fun q h=>by cases h;rfl),hcs2,(by omega),(by omega)⟩,chk_ok (by kernel_rfl),(i+1,⟨P.g,insF P.fs G⟩),⟨hlt,hP2.symm⟩,(by dsimp only;omega),to_trans (t:=⟨[(0,true,.one (.s 0)),(2,true,.one (.p 2 0 0)),(3,true,.one (.p 3 0 0)),(4,true,.one (.v (.int .i64 ((i+1:Nat):Int))))],
        [(0,.vec 0 zUc (l.map Un.c)),(2,.vec 0 fl3 [[.v (.slice none 0 0),.v (.slice none 0 0),.v (.slice none 0 0)]]),(3,.vec 0 fl3 [[.d (.sl zSqD (P.g.c.map cSd)),.d (.sl zGyD (P.g.a.map Gy.r)),.s 99]]),(99,.vec 0 zFc ((insF P.fs G).map Fn.c))]⟩) ?_ (to_with [.fz 99] ?_)⟩
        ·refine to_with [] ?_;simp only[↓eB,seval,go_sem,fl3,fl4,un_nms,fnC_nms,Fn.c,Fn.r,zFc,hins,List.map_append,List.flatMap_append]
        ·simp only[↓eB,seval,go_sem,fl3,un_nms,un_fzz,fnC_ds,zFc]
       |succ k=>
        have k1:decide ((0:Int)<((k+1:Nat):Int))=true:=by simp
        have w2:IntKind.i64.wrap (((k+1:Nat):Int)-1)=(k:Int):=by rw[wrap_i64 (by omega) (by omega)];omega
        have hkf:=fnD_at (l:=P.fs) (k:=k) hk
        have hkl:(k:Int)<(P.fs.length:Int):=by omega
        have hkn:(0:Int)≤(k:Int):=by omega
        cases hgt:gtB (P.fs.getD k fnZ).name G.name with
        |true=>
         have hJ2:insP P.fs G.name P.fs.length=insP P.fs G.name k:=by rw[hJ];simp only[insP];exact if_pos hgt
         rw[gtB_e]at hgt
         simp only[↓eB,seval,go_sem,yp_Func,yg_resolve,yg_rGlobals,yp_Check,cFn_e,cFn_d,Fn.c,fn_eta,pairO_n,pairN_o,spFn_n,mUn_e,mUn_z,Un.c,cGl_e,cGl_d,Gl.cc,fl3,fl4,k1,w2,hkf,Fn.r,hgt]
         refine⟨hkl,chk_ok (by kernel_rfl),k,⟨(by omega),hJ2⟩,(by omega),?_⟩
         refine to_with [] ?_;simp only[↓eB,seval,go_sem,fl3,fl4,un_nms,Fn.c,zFc]
        |false=>
         have hJ2:insP P.fs G.name P.fs.length=k+1:=by rw[hJ];simp only[insP];exact if_neg (by rw[hgt];decide)
         rw[gtB_e]at hgt
         have hins:=insF_c P.fs G hJ2
         simp only[Fn.c]at hins
         have hcs:=fnC_st (P.fs.drop (k+1))
         have hcs2:=fnC_st (G::P.fs.drop (k+1))
         simp only[Fn.c,List.map_cons]at hcs hcs2
         simp only[↓eB,seval,go_sem,yp_Func,yg_resolve,yg_rGlobals,yp_Check,cFn_e,cFn_d,Fn.c,fn_eta,pairO_n,pairN_o,spFn_n,mUn_e,mUn_z,Un.c,cGl_e,cGl_d,Gl.cc,fl3,fl4,k1,w1,w2,hkf,Fn.r,hgt,fnr_oD,fn_tk,fn_dr,fn_dr0]
         have hdl:(List.drop (k+1) P.fs).length=P.fs.length-(k+1):=List.length_drop ..
         have htl:(List.take (k+1) P.fs).length=k+1:=by simp;omega
         refine⟨hkl,chk_ok (by kernel_rfl),(by omega),⟨(by omega),Int.le_refl _⟩,⟨(fun q h=>by cases h;rfl),hcs,(by omega),(by omega)⟩,⟨Nat.succ_pos _,(fun q h=>by cases h;rfl),hcs2,(by omega),(by omega)⟩,chk_ok (by kernel_rfl),(i+1,⟨P.g,insF P.fs G⟩),⟨hlt,hP2.symm⟩,(by dsimp only;omega),to_trans (t:=⟨[(0,true,.one (.s 0)),(2,true,.one (.p 2 0 0)),(3,true,.one (.p 3 0 0)),(4,true,.one (.v (.int .i64 ((i+1:Nat):Int))))],
        [(
         0,.vec 0 zUc (l.map Un.c)),(2,.vec 0 fl3 [[.v (.slice none 0 0),.v (.slice none 0 0),.v (.slice none 0 0)]]),(3,.vec 0 fl3 [[.d (.sl zSqD (P.g.c.map cSd)),.d (.sl zGyD (P.g.a.map Gy.r)),.s 99]]),(99,.vec 0 zFc ((insF P.fs G).map Fn.c))]⟩) ?_ (to_with [.fz 99] ?_)⟩
         ·refine to_with [] ?_;simp only[↓eB,seval,go_sem,fl3,fl4,un_nms,fnC_nms,Fn.c,Fn.r,zFc,hins,List.map_append,List.flatMap_append]
         ·simp only[↓eB,seval,go_sem,fl3,un_nms,un_fzz,fnC_ds,zFc]
end Go.Proofs.Ytjnnmindcbgjhab
