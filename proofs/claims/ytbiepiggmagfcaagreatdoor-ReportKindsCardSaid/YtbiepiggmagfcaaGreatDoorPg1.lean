/- One unit of a program: parsed and resolved. No conditions but those in each statement. -/
import Derived.Test.YtbiepiggmagfcaaGreatDoorPa9
import Derived.Test.YtbiepiggmagfcaaGreatDoorRs3
import Derived.Test.YtbiepiggmagfcaaGreatDoorLz
import Derived.Test.YtbiepiggmagfcaaGreatDoorMc3
import Derived.Test.YtbiepiggmagfcaaGreatDoorPs6
set_option linter.unusedVariables false
set_option linter.unusedSimpArgs false
namespace Go.Proofs.YtbiepiggmagfcaaGreatDoor
open Go Go.Sy Go.RowKit
structure Un where
 s:List UInt8
 t:List UInt8
def Un.c (u:Un):List C:=[.v (.string (bs u.s)),.v (.string (bs u.t))]
abbrev zUc:List C:=[.v (.string (bs [])),.v (.string (bs []))]
theorem unc_nm (u:Un):∀c∈u.c,c.names=[]:=by
 intro c hc
 simp only[Un.c,List.mem_cons,List.not_mem_nil,or_false]at hc
 rcases hc with rfl|rfl<;>rfl
noncomputable def mUn:RowM Un:=rowMOf zUc Un.c unc_nm
theorem mUn_z:mUn.z=zUc:=rfl
theorem mUn_e:mUn.e=Un.c:=rfl
theorem unc_inj (a b:Un) (h:a.c=b.c):a=b:=by
 obtain⟨s,t⟩:=a
 obtain⟨s',t'⟩:=b
 simp only[Un.c,List.cons.injEq,C.v.injEq,Value.string.injEq,and_true]at h
 rw[bs_inj h.1,bs_inj h.2]
theorem mem_us (l:List Un):∀q,some q∈[some ((zUc,l.map Un.c):MV)]→∀r∈q.2,∀c∈r,c.names=[]:=by
 intro q hq r hr c hc
 simp only[List.mem_singleton,Option.some.injEq]at hq
 subst hq
 obtain⟨u,_,rfl⟩:=List.mem_map.1 hr
 exact unc_nm u c hc
def fl3:List C:=[.v (.bool false),.v (.bool false),.v (.bool false)]
def pgC (l:List Fn):List C:=[.v (.slice none 0 0),.v (.slice none 0 0),.d (.sl zFn (l.map Fn.r))]
theorem fn_stor (f:Fn):rowsStor [f.c]:=by
 intro r h c hc
 simp only[List.mem_singleton]at h
 subst h
 simp only[Fn.c,List.mem_cons,List.not_mem_nil,or_false]at hc
 rcases hc with rfl|rfl|rfl|rfl<;>rfl
def pgF (u:Un) (m:Nat):List Fn:=
 if ((funF u.t).2.2 != 0)=true then []
 else if ((resF (funF u.t).1 u.s m).2.2 != 0)=true then []
 else [(resF (funF u.t).1 u.s m).1]
abbrev yc_Program (n:Nat) (m:Nat) (l:List Un):Prop:=∃u:Un,l=[u]∧(u.s==gloB)=false∧smallB u.t∧okF (funF u.t).1∧okB n m (funF u.t).1.body
abbrev yr_Program (n:Nat) (m:Nat) (l:List Un):SV:=.agg (pgC (pgF (l.headD ⟨[],[]⟩) m))
abbrev ym_Program (n:Nat) (m:Nat) (l:List Un):List (Option MV):=[some (zUc,l.map Un.c)]
noncomputable abbrev ya_Program:ArgM ((List Un)×Unit):=(amS (mUn) am0)
abbrev yq_Program (n:Nat) (m:Nat):Prop:=CallsM Tryz.prog 44 ((ya_Program).args 0) (ya_Program).mem (fun p:(List Un)×Unit=>yc_Program n m p.1) (fun p:(List Un)×Unit=>yr_Program n m p.1) (fun p:(List Un)×Unit=>ym_Program n m p.1)
theorem yl_Program (n:Nat) (m:Nat):∀p,(fun p:(List Un)×Unit=>yc_Program n m p.1) p→lenM ((ya_Program).mem p).length ((fun p:(List Un)×Unit=>ym_Program n m p.1) p)=true:=by intro p _;rfl
theorem yo_Program (n:Nat) (m:Nat):∀p,(fun p:(List Un)×Unit=>yc_Program n m p.1) p→outV ((fun p:(List Un)×Unit=>ym_Program n m p.1) p).length ((fun p:(List Un)×Unit=>yr_Program n m p.1) p)=true:=by intro p _;first|rfl|exact ex_out _ _|exact cd_out _ _|(simp[outV,outC,ex_out,cd_out];done)
theorem yn_Program (n:Nat) (m:Nat):∀p,(fun p:(List Un)×Unit=>yc_Program n m p.1) p→∀q,some q∈(fun p:(List Un)×Unit=>ym_Program n m p.1) p→∀r∈q.2,∀c∈r,c.names=[]:=by intro p _;exact mem_us _
noncomputable def yg_Program {X:Ctx} {w0:World} (n:Nat) (m:Nat) (h:yq_Program n m):Sy.Spec Tryz.prog X w0:=specM 44 Tryz.call44 (ya_Program) (fun p:(List Un)×Unit=>yc_Program n m p.1) (fun p:(List Un)×Unit=>yr_Program n m p.1) (fun p:(List Un)×Unit=>ym_Program n m p.1) (yl_Program n m) (yo_Program n m) (yn_Program n m) h
attribute [local go_sem] Un.c
set_option maxRecDepth 20000 in set_option maxHeartbeats 8000000 in
theorem y_Program (n:Nat) (m:Nat):yq_Program n m:=by
 rintro ⟨l,_u⟩ w M I lab fz xs hc hA hl hx
 refine calls_toML Tryz.func44 rfl ((ya_Program).mem ⟨l,_u⟩) w M I lab fz [yp_Func,(yg_resolve n m (y_resolve n m))] [] ((ya_Program).args 0 ⟨l,_u⟩) ((fun p:(List Un)×Unit=>ym_Program n m p.1) ⟨l,_u⟩) ((fun p:(List Un)×Unit=>yr_Program n m p.1) ⟨l,_u⟩) xs hA hl hx (fun v hv k hk=>by have:=(ya_Program).an 0 ⟨l,_u⟩ v hv k hk;omega) (Nat.le_of_ble_eq_true rfl) (Nat.le_of_ble_eq_true rfl) ?_
 clear hx hl hA xs
 simp only[Tryz.f44]
 obtain⟨u,rfl,hg,hs,h1,h2⟩:=hc
 simp only[gloB]at hg
 have h0:([u]:List Un).headD ⟨[],[]⟩=u:=rfl
 simp only[↓eB,seval,go_sem,yp_Func,yg_resolve,cFn_e,cFn_d,Fn.c,fn_eta,pairO_n,pairN_o,spFn_n,mUn_e,mUn_z]
 refine loop_ok (Y:=Nat×List Fn) (fun z=>(z.1=0∧z.2=[])∨(z.1=1∧z.2=pgF u m))
  (fun z=>⟨[(0,true,.one (.s 0)),(2,true,.one (.p 2 0 0)),(3,true,.one (.p 3 0 0)),(4,true,.one (.v (.int .i64 (z.1:Int))))],
   [(0,.vec 0 zUc [u.c]),(2,.vec 0 fl3 [[.v (.slice none 0 0),.v (.slice none 0 0),.v (.slice none 0 0)]]),(3,.vec 0 fl3 [pgC z.2])]⟩)
  (fun z=>1-z.1) (0,[]) (.inl ⟨rfl,rfl⟩) ?_ ?_
 ·refine to_with [.nilr 3 0 2 1000 zFc,.fz 1000] ?_;simp only[↓eB,seval,go_sem,fl3,pgC,zFc,zFn]
 ·rintro ⟨i,fs⟩ hJ
  refine vc_ok [yp_Func,yg_resolve n m (y_resolve n m)] [] _ _ _ ?_
  dsimp only at hJ
  rcases hJ with⟨rfl,rfl⟩|⟨rfl,rfl⟩
  ·obtain⟨⟨F,a1,r1⟩,hF⟩:∃x,funF u.t=x:=⟨_,rfl⟩
   obtain⟨⟨G,a2,r2⟩,hR⟩:∃x,resF F u.s m=x:=⟨_,rfl⟩
   rw[hF]at h1 h2
   dsimp only at h1 h2
   cases e1:(r1==0) with
   |false=>
    have e1':(r1 != 0)=true:=by simp[bne,e1]
    have hp:pgF u m=[]:=by unfold pgF;rw[hF];exact if_pos e1'
    simp only[↓eB,seval,go_sem,yp_Func,yg_resolve,cFn_e,cFn_d,Fn.c,fn_eta,pairO_n,pairN_o,spFn_n,mUn_e,mUn_z,hg,hF,e1,e1',fl3,pgC]
    try simp only[impB,impN]
    repeat' first|exact ck|with_reducible apply And.intro|intro _
    all_goals try first|exact hs|(rename_i h;first|exact oI h|exact nah h)|(rename_i _ h _ g;exact sL h g)|decide|omega
    refine⟨(1,[]),.inr ⟨rfl,hp.symm⟩,by decide,to_with [] ?_⟩
    simp only[↓eB,seval,go_sem,fl3,pgC,Fn.c,zFc,zFn]
   |true=>
    have e1':(r1 != 0)=false:=by simp[bne,e1]
    cases e2:(r2==0) with
    |false=>
     have e2':(r2 != 0)=true:=by simp[bne,e2]
     have hp:pgF u m=[]:=by unfold pgF;rw[hF];simp only[e1',hR,e2',Bool.false_eq_true,if_false,if_true]
     simp only[↓eB,seval,go_sem,yp_Func,yg_resolve,cFn_e,cFn_d,Fn.c,fn_eta,pairO_n,pairN_o,spFn_n,mUn_e,mUn_z,hg,hF,hR,e1,e1',e2,e2',fl3,pgC]
     try simp only[impB,impN]
     repeat' first|exact ck|with_reducible apply And.intro|intro _
     all_goals try first|exact hs|exact h1|exact h2|(rename_i h;first|exact oI h|exact nah h)|(rename_i _ h _ g;exact sL h g)|decide|omega
     refine⟨(1,[]),.inr ⟨rfl,hp.symm⟩,by decide,to_with [] ?_⟩
     simp only[↓eB,seval,go_sem,fl3,pgC,Fn.c,zFc,zFn]
    |true=>
     have e2':(r2 != 0)=false:=by simp[bne,e2]
     have hp:pgF u m=[G]:=by unfold pgF;rw[hF];simp only[e1',hR,e2',Bool.false_eq_true,if_false]
     simp only[↓eB,seval,go_sem,yp_Func,yg_resolve,cFn_e,cFn_d,Fn.c,fn_eta,pairO_n,pairN_o,spFn_n,mUn_e,mUn_z,hg,hF,hR,e1,e1',e2,e2',fl3,pgC]
     refine⟨hs,⟨h1,h2⟩,chk_ok (by kernel_rfl),?_⟩
     refine loop_ok (Y:=Unit) (fun _=>True)
      (fun _=>⟨[(0,true,.one (.s 0)),(2,true,.one (.p 2 0 0)),(3,true,.one (.p 3 0 0)),(4,true,.one (.v (.int .i64 0))),(8,true,.one (.p 8 0 0)),(11,true,.one (.v (.int .i64 0)))],
       [(0,.vec 0 zUc [u.c]),(2,.vec 0 fl3 [[.v (.slice none 0 0),.v (.slice none 0 0),.v (.slice none 0 0)]]),(3,.vec 0 fl3 [pgC []]),(8,.vec 0 fl4 [G.c])]⟩)
      (fun _=>0) () trivial ?_ ?_
     ·refine to_with [] ?_;simp only[↓eB,seval,go_sem,fl3,fl4,pgC,Fn.c,zFc,zFn]
     ·rintro ⟨⟩ _
      refine vc_ok [yp_Func,yg_resolve n m (y_resolve n m)] [] _ _ _ ?_
      simp only[↓eB,seval,go_sem,yp_Func,yg_resolve,cFn_e,cFn_d,Fn.c,fn_eta,pairO_n,pairN_o,spFn_n,mUn_e,mUn_z,fl3,fl4,pgC,zFn,List.getD_nil]
      refine⟨chk_ok (by kernel_rfl),⟨fun q h=>(by cases h;rfl),fun r h=>(by cases h)⟩,⟨fun q h=>(by cases h;rfl),fn_stor G⟩,chk_ok (by kernel_rfl),(1,[G]),.inr ⟨rfl,hp.symm⟩,Nat.lt_succ_self 0,
       to_trans (t:=⟨[(0,true,.one (.s 0)),(2,true,.one (.p 2 0 0)),(3,true,.one (.p 3 0 0)),(4,true,.one (.v (.int .i64 1)))],
        [(0,.vec 0 zUc [u.c]),(2,.vec 0 fl3 [[.v (.slice none 0 0),.v (.slice none 0 0),.v (.slice none 0 0)]]),(3,.vec 0 fl3 [[.v (.slice none 0 0),.v (.slice none 0 0),.s 99]]),(99,.vec 0 zFc [G.c])]⟩) (to_with [] ?_) (to_with [.fz 99] ?_)⟩
      ·simp only[↓eB,seval,go_sem,fl3,fl4,pgC,Fn.c,Fn.r,zFc,zFn]
      ·simp only[↓eB,seval,go_sem,fl3,fl4,pgC,Fn.c,Fn.r,zFc,zFn]
  ·simp only[↓eB,seval,go_sem,yp_Func,yg_resolve,cFn_e,cFn_d,Fn.c,fn_eta,pairO_n,pairN_o,spFn_n,mUn_e,mUn_z,fl3,pgC]
   refine ret_with [] ?_;simp only[↓eB,seval,go_sem,bne,yr_Program,ym_Program,h0,pgC]
end Go.Proofs.YtbiepiggmagfcaaGreatDoor
namespace Go.Proofs.YtbiepiggmagfcaaGreatDoor
open Go Go.Sy Go.RowKit
theorem mUn_d (s t:List UInt8):mUn.d [.v (.string (bs s)),.v (.string (bs t))]=some ⟨s,t⟩:=rowMOf_d unc_inj ⟨s,t⟩
end Go.Proofs.YtbiepiggmagfcaaGreatDoor
namespace Go.Proofs.YtbiepiggmagfcaaGreatDoor
open Go Go.Sy Go.RowKit
theorem OkS.mono {n n':Nat} {s:Sm} (h:OkS n s) (hn:n≤n'):OkS n' s:=
 ⟨Nat.lt_of_lt_of_le h.e hn,Nat.lt_of_lt_of_le h.f hn,Nat.lt_of_lt_of_le h.c hn,fun a ha=>Nat.lt_of_lt_of_le (h.a a ha) hn,h.l⟩
end Go.Proofs.YtbiepiggmagfcaaGreatDoor
namespace Go.Proofs.YtbiepiggmagfcaaGreatDoor
open Go Go.Sy Go.RowKit
noncomputable section
end
end Go.Proofs.YtbiepiggmagfcaaGreatDoor
namespace Go.Proofs.YtbiepiggmagfcaaGreatDoor
open Go Go.Sy Go.RowKit
structure Kp (n:Nat) (s s1:Sm):Prop where
 p:PrS n s1
 r:RgS s1
 h:(hdL s1).flatten=(hdL s).flatten
 no:s1.no=s.no
 k:(s1.k=s.k∧s1.th=s.th∧s1.el=s.el)∨(s.k=0∧s1.k=2∧s1.th=[]∧s1.el=[])
theorem Kp.refl {n:Nat} {s:Sm} (p:PrS n s) (r:RgS s):Kp n s s:=⟨p,r,rfl,rfl,.inl ⟨rfl,rfl,rfl⟩⟩
structure Kpl (n m:Nat) (l l':List Sm):Prop where
 p:okPr n m l'
 r:okRg m l'
 t:∀d,lnB d l'=lnB d l
def okNo:Nat→List Sm→Prop
 |0,_=>True
 |m+1,l=>∀s∈l,0≤s.no∧okNo m s.th∧okNo m s.el
theorem okNo_nil (m:Nat):okNo m []:=by
 cases m with
 |zero=>trivial
 |succ m=>intro s hs;cases hs
mutual
theorem no_S:∀(s:Cs) (n:Int) (m:Nat),0≤n→0≤(s.v n).no∧okNo m (s.v n).th∧okNo m (s.v n).el
 | .asg x e,n,m,h=>⟨h,okNo_nil _,okNo_nil _⟩
 | .adr x y,n,m,h=>⟨h,okNo_nil _,okNo_nil _⟩
 | .nul x,n,m,h=>⟨h,okNo_nil _,okNo_nil _⟩
 | .lod x y,n,m,h=>⟨h,okNo_nil _,okNo_nil _⟩
 | .sto x e,n,m,h=>⟨h,okNo_nil _,okNo_nil _⟩
 | .idx x y e,n,m,h=>⟨h,okNo_nil _,okNo_nil _⟩
 | .put y e f,n,m,h=>⟨h,okNo_nil _,okNo_nil _⟩
 | .cal none y l,n,m,h=>⟨h,okNo_nil _,okNo_nil _⟩
 | .cal (some x) y l,n,m,h=>⟨h,okNo_nil _,okNo_nil _⟩
 | .ret e,n,m,h=>⟨h,okNo_nil _,okNo_nil _⟩
 | .ass c,n,m,h=>⟨h,okNo_nil _,okNo_nil _⟩
 | .whi c b,n,m,h=>⟨h,no_B b (n+1) m (by omega),okNo_nil _⟩
 | .ite c b none,n,m,h=>⟨h,no_B b (n+1) m (by omega),okNo_nil _⟩
 | .ite c b (some e),n,m,h=>⟨h,no_B b (n+1) m (by omega),no_B e (n+1+ctB b) m (by omega)⟩
theorem no_B:∀(l:List Cs) (n:Int) (m:Nat),0≤n→okNo m (vB n l)
 |[],n,m,h=>by rw[vB];exact okNo_nil _
 |s::l,n,m,h=>by
  rw[vB]
  cases m with
  |zero=>trivial
  |succ m=>
   intro x hx
   rcases List.mem_cons.1 hx with rfl|hx
   ·exact no_S s n m h
   ·exact no_B l (n+s.ct) (m+1) (by omega) x hx
end
structure Pn (n m n' m':Nat) (s:Sm):Prop where
 p:PrS n s
 r:RgS s
 no:0≤s.no
 pt:okPr n m s.th
 pe:okPr n m s.el
 rt:okRg m s.th
 re:okRg m s.el
 nt:okNo m s.th
 ne:okNo m s.el
 bt:okB n' m' s.th
 be:okB n' m' s.el
end Go.Proofs.YtbiepiggmagfcaaGreatDoor
namespace Go.Proofs.YtbiepiggmagfcaaGreatDoor
open Go Go.Sy Go.Shelf Go.RowKit
theorem ixB:∀(t r:List UInt8),10∉t→Lib.indexByte (t++10::r) 10=(t.length:Int)
 |[],r,_=>by simp[Lib.indexByte]
 |b::t,r,h=>by
  have hb:b≠10:=fun e=>h (by rw[e];simp)
  have ht:10∉t:=fun e=>h (List.mem_cons_of_mem _ e)
  have ih:=ixB t r ht
  have hb':(b==10)=false:=by rw[beq_eq_false_iff_ne];exact hb
  simp only[List.cons_append,Lib.indexByte,hb',ih,List.length_cons]
  have:(((t.length:Nat):Int) == -1)=false:=by rw[beq_eq_false_iff_ne];omega
  simp[this]<;>omega
theorem splK (t r:List UInt8) (h:10∉t) (k:Nat):Lib.splitK [10] 0 (k+1) (t++10::r)=t::Lib.splitK [10] 0 k r:=by
 have h1:Lib.index (t++10::r) [10]=(t.length:Int):=by rw[Lib.index_one];exact ixB t r h
 simp only[Lib.splitK]
 have h2:(((t.length:Nat):Int) == -1)=false:=by rw[beq_eq_false_iff_ne];omega
 rw[h1,h2,if_neg (by decide),Int.toNat_natCast]
 congr 1
 ·simp
 ·congr 1
  have:t++10::r=(t++[10])++r:=by simp
  rw[this,show t.length+([10]:List UInt8).length=(t++[10]).length by simp,List.drop_left]
theorem spl_lnX:∀l:List Ln,(∀x∈l,10∉x.t)→splT (lnX l)=l.map (·.t)++[[]]
 |[],_=>by
  unfold splT
  rw[lnX_nil,Lib.count_one]
  rfl
 |x::l,h=>by
  have hx:=h x (by simp)
  have ih:=spl_lnX l (fun y hy=>h y (List.mem_cons_of_mem _ hy))
  have e:lnX (x::l)=x.t++10::lnX l:=by rw[lnX_cons];simp
  unfold splT at ih ⊢
  rw[Lib.count_one]at ih ⊢
  have hc:(lnX (x::l)).count 10=(lnX l).count 10+1:=by
   rw[e,List.count_append,List.count_cons_self,List.count_eq_zero.2 hx];omega
  rw[hc,e,splK _ _ hx,ih];rfl
mutual
theorem lnS_ht (d:Nat):∀s:Sm,(lnS d s).length=htS s
 | .mk k x y e f c ar th el no=>by
  have h1:=lnB_ht (d+1) th
  have h2:=lnB_ht (d+1) el
  simp only[lnS,htS,List.length_cons]
  split
  ·simp only[List.length_append,List.length_cons,List.length_nil,h1]
   split
   ·simp;omega
   ·simp only[List.length_cons,h2];omega
  split
  ·simp only[List.length_append,List.length_cons,List.length_nil,h1];omega
  ·rfl
theorem lnB_ht (d:Nat):∀l:List Sm,(lnB d l).length=htB l
 |[]=>by simp[lnB,htB]
 |s::l=>by
  simp only[lnB,htB,List.length_append,lnS_ht d s,lnB_ht d l]
end
theorem mkT_m (A:List Al) (N:List Nt) (t:List UInt8):mkT A N ⟨t,-1⟩=t:=by
 unfold mkT;rw[if_neg (by simp)]
theorem addL_at (A:List Al) (N:List Nt) (pre post:List (List UInt8)) (t:List UInt8) (no:Int) (h:0≤no):addL A N (pre++t::post) (pre.length:Int) no=pre++mkT A N ⟨t,no⟩::post:=by
 have h0:decide (0≤no)=true:=by simpa using h
 unfold addL mkT
 cases hz:(addT A N no).isEmpty with
 |true=>rw[if_pos rfl,if_neg (by simp[hz])]
 |false=>
  rw[if_neg (by decide),if_pos (by simp[h0,hz])]
  unfold extL
  rw[if_pos (by unfold inB;simp;omega),Int.toNat_natCast]
  have:(pre++t::post).getD pre.length []=t:=by simp[List.getD]
  rw[this,List.set_append_right _ _ (Nat.le_refl _),Nat.sub_self,List.set_cons_zero]
  simp
mutual
def noS:Sm→Prop
 | .mk _ _ _ _ _ _ _ th el no=>0≤no∧noB th∧noB el
def noB:List Sm→Prop
 |[]=>True
 |s::l=>noS s∧noB l
end
mutual
theorem bkS_ln (A:List Al) (N:List Nt) (d:Nat):∀(s:Sm) (pre post:List (List UInt8)),noS s→
  bkS A N s (pre++((lnS d s).map (·.t)++post)) (pre.length:Int)=pre++((lnS d s).map (mkT A N)++post)
 | .mk k x y e f c ar th el no,pre,post,hn=>by
  simp only[noS]at hn
  obtain⟨h0,h1,h2⟩:=hn
  simp only[bkS,lnS,List.map_cons,List.cons_append]
  rw[addL_at A N pre _ _ no h0]
  obtain⟨H,hH⟩:∃H,mkT A N (lnO d (hdL (.mk k x y e f c ar th el no)).flatten no)=H:=⟨_,rfl⟩
  have hH':mkT A N ⟨(lnO d (hdL (.mk k x y e f c ar th el no)).flatten no).t,no⟩=H:=hH
  rw[hH,hH']
  split
  ·rename_i k10
   have i1:((pre.length:Int)+1)=((pre++[H]).length:Int):=by simp
   have a1:∀q:List (List UInt8),pre++H::((lnB (d+1) th).map (·.t)++q)=(pre++[H])++((lnB (d+1) th).map (·.t)++q):=fun q=>by simp
   split
   ·rename_i he
    simp only[List.map_append,List.nil_append,List.append_assoc]
    rw[a1,i1,bkB_ln A N (d+1) th _ _ h1]
    simp[lnO,mkT_m]
   ·rename_i he
    simp only[List.map_append,List.map_cons,List.append_assoc,List.cons_append]
    rw[a1,i1,bkB_ln A N (d+1) th _ _ h1]
    have i2:(((pre++[H]).length:Int)+(htB th:Int)+1)=(((pre++[H])++((lnB (d+1) th).map (mkT A N)++[(lnO d [125,32,101,108,115,101,32,123] (-1)).t])).length:Int):=by
     simp only[List.length_append,List.length_map,lnB_ht,List.length_cons,List.length_nil];omega
    have a2:∀q:List (List UInt8),(pre++[H])++((lnB (d+1) th).map (mkT A N)++(lnO d [125,32,101,108,115,101,32,123] (-1)).t::((lnB (d+1) el).map (·.t)++q))=((pre++[H])++((lnB (d+1) th).map (mkT A N)++[(lnO d [125,32,101,108,115,101,32,123] (-1)).t]))++((lnB (d+1) el).map (·.t)++q):=fun q=>by simp
    rw[a2,i2,bkB_ln A N (d+1) el _ _ h2]
    simp[lnO,mkT_m]
  ·split
   ·have i1:((pre.length:Int)+1)=((pre++[H]).length:Int):=by simp
    have a1:∀q:List (List UInt8),pre++H::((lnB (d+1) th).map (·.t)++q)=(pre++[H])++((lnB (d+1) th).map (·.t)++q):=fun q=>by simp
    simp only[List.map_append,List.append_assoc]
    rw[a1,i1,bkB_ln A N (d+1) th _ _ h1]
    simp[lnO,mkT_m]
   ·simp
theorem bkB_ln (A:List Al) (N:List Nt) (d:Nat):∀(l:List Sm) (pre post:List (List UInt8)),noB l→
  bkB A N l (pre++((lnB d l).map (·.t)++post)) (pre.length:Int)=pre++((lnB d l).map (mkT A N)++post)
 |[],pre,post,_=>by simp[bkB,lnB]
 |s::r,pre,post,h=>by
  obtain⟨q1,q2⟩:noS s∧noB r:=by simpa only[noB] using h
  simp only[bkB,lnB,List.map_append,List.append_assoc]
  rw[bkS_ln A N d s pre _ q1]
  have i1:((pre.length:Int)+(htS s:Int))=((pre++(lnS d s).map (mkT A N)).length:Int):=by
   simp only[List.length_append,List.length_map,lnS_ht];omega
  have a1:∀q:List (List UInt8),pre++((lnS d s).map (mkT A N)++q)=(pre++(lnS d s).map (mkT A N))++q:=fun q=>by simp
  rw[a1,i1,bkB_ln A N d r _ _ q2]
  simp
end
end Go.Proofs.YtbiepiggmagfcaaGreatDoor
