/- Statements and functions that are written: of known kinds, with their parts, and not too long as text. No conditions but those in each statement. -/
import Derived.Test.YtbiepiggmagfcaaGreatDoorCx5
set_option linter.unusedVariables false
set_option linter.unusedSimpArgs false
namespace Go.Proofs.YtbiepiggmagfcaaGreatDoor
open Go Go.Sy Go.RowKit
structure RqS (N M d:Nat) (t:List Kt) (s:Sm):Prop where
 p:PrS N s
 r:RgS s
 pt:okPr N M s.th
 pe:okPr N M s.el
 rt:okRg M s.th
 re:okRg M s.el
 l:(lnX (lnS d s)).length≤wT t
theorem okRg_nil {M:Nat} (h:0<M):okRg M []:=by
 cases M with
 |zero=>omega
 |succ M=>intro s hs;cases hs
theorem okPr_nil' {N M:Nat} (h:0<M):okPr N M []:=by
 cases M with
 |zero=>omega
 |succ M=>exact⟨Nat.zero_le _,fun s hs=>by cases hs⟩
theorem lnS_flat (d:Nat) (s:Sm) (h1:(s.k==10)=false) (h2:(s.k==11)=false):(lnX (lnS d s)).length=d+(hdL s).flatten.length+1:=by
 rw[lnS_eq]
 simp only[h1,h2,if_false,Bool.false_eq_true]
 rw[lnX_o,lnX_nil,List.append_nil,lT_len]
theorem rq_fl {N M d:Nat} {t:List Kt} {k:Int} {x y:List UInt8} {e f:Ex} {c:Cd} {ar:List Ar} {no:Int} (hM:0<M) (hN:0<N) (hd:d≤60) (hk:0≤k∧k≤12∧k≠10∧k≠11) (he:okN e∧e.dp<N) (hf:okN f∧f.dp<N) (hc:okCn c∧c.dp<N) (ha:(∀a∈ar,okN a.e∧a.e.dp<N)∧ar.length≤5000) (hr:RgS (.mk k x y e f c ar [] [] no)) (hl:(hdL (.mk k x y e f c ar [] [] no)).flatten.length+100≤wT t):RqS N M d t (.mk k x y e f c ar [] [] no):=by
 refine⟨⟨⟨he.2,hf.2,hc.2,fun a h=>(ha.1 a h).2,ha.2⟩,hk.1,hk.2.1,he.1,hf.1,hc.1,fun a h=>(ha.1 a h).1⟩,hr,okPr_nil' hM,okPr_nil' hM,okRg_nil hM,okRg_nil hM,?_⟩
 rw[lnS_flat d _ (by simp only[Sm.k,beq_eq_false_iff_ne];exact hk.2.2.1) (by simp only[Sm.k,beq_eq_false_iff_ne];exact hk.2.2.2)]
 omega
theorem nilE {N:Nat} (h:0<N):okN .nil∧Ex.dp .nil<N:=⟨trivial,h⟩
theorem nilC' {N:Nat} (h:0<N):okCn .nil∧Cd.dp .nil<N:=⟨trivial,h⟩
theorem nilA {N:Nat}:(∀a∈([]:List Ar),okN a.e∧a.e.dp<N)∧([]:List Ar).length≤5000:=⟨(fun a h=>by cases h),Nat.zero_le _⟩
theorem exO.rq {e:Cx} (h:exO e) {N:Nat} (hN:e.tk.length<N):(okN e.v∧e.v.dp<N)∧rgE e.v∧(exT e.v).length≤wT e.tk:=by
 obtain⟨a,b,c,d⟩:=e.rg h.1
 exact⟨⟨b,by omega⟩,a,c⟩
theorem jn_len (l:List (List UInt8)):(jnT l).length≤Lib.lens l+2*l.length:=by
 cases l with
 |nil=>exact Nat.zero_le _
 |cons a l=>
  unfold jnT
  rw[Lib.join_length]
  simp only[List.length_cons,List.length_nil];omega
theorem ag_len:∀l:List Cx,(∀e∈l,exO e)→Lib.lens ((agA l).map argX)+2*l.length≤wT (agK l)
 |[],_=>by simp[agA,Lib.lens]
 |[c],h=>by
  obtain⟨_,_,b,_⟩:=c.rg (h c (by simp)).1
  have e:Lib.lens ((agA [c]).map argX)=(exT c.v).length:=by simp[agA,Lib.lens,argX]
  rw[e,agK,wT_app,wT_cons]
  simp only[List.length_cons,List.length_nil];omega
 |c::d::l,h=>by
  have ih:=ag_len (d::l) fun e he=>h e (List.mem_cons_of_mem _ he)
  obtain⟨_,_,b,_⟩:=c.rg (h c (by simp)).1
  have e:Lib.lens ((agA (c::d::l)).map argX)=(exT c.v).length+Lib.lens ((agA (d::l)).map argX):=by simp[agA,Lib.lens,argX]
  have e2:wT (agK (c::d::l))=wT c.tk+((kO 44).2.length+200+wT (agK (d::l))):=by rw[agK,wT_app,wT_cons];simp
  rw[e,e2]
  simp only[List.length_cons]at ih ⊢;omega
theorem ag_tk:∀(l:List Cx) (e:Cx),e∈l→e.tk.length≤(agK l).length
 |[c],e,h=>by rw[List.mem_singleton.1 h];simp[agK]
 |c::d::l,e,h=>by
  rcases List.mem_cons.1 h with rfl|h
  ·simp only[agK,List.length_append];omega
  ·have:=ag_tk (d::l) e h
   simp only[agK,List.length_append,List.length_cons]at this ⊢;omega
theorem ag_rq {l:List Cx} (h:∀e∈l,exO e) {N:Nat} (hN:(agK l).length<N) (hl:(agK l).length≤4100):((∀a∈agA l,okN a.e∧a.e.dp<N)∧(agA l).length≤5000)∧(∀a∈agA l,a.p=false→rgE a.e)∧(jnT ((agA l).map argX)).length≤wT (agK l):=by
 refine⟨⟨fun a ha=>?_,?_⟩,fun a ha _=>?_,?_⟩
 ·obtain⟨e,he,rfl⟩:=List.mem_map.1 ha
  have:=ag_tk l e he
  exact((h e he).rq (N:=N) (by omega)).1
 ·have:=agK_len l
  simp only[agA,List.length_map];omega
 ·obtain⟨e,he,rfl⟩:=List.mem_map.1 ha
  exact(e.rg (h e he).1).1
 ·have h1:=jn_len ((agA l).map argX)
  have h2:=ag_len l h
  have h3:((agA l).map argX).length=l.length:=by simp[agA]
  rw[h3]at h1
  omega
theorem RgS.no {k:Int} {x y:List UInt8} {e f:Ex} {c:Cd} {ar:List Ar} {th el:List Sm} {no:Int} (h:k=1∨k=2∨k=3∨k=4):RgS (.mk k x y e f c ar th el no):=by
 refine⟨fun h1=>?_,fun h1=>?_,fun h1=>?_,fun h1=>?_⟩<;>simp only[Sm.k]at h1<;>omega
theorem RgS.ex {k:Int} {x y:List UInt8} {e:Ex} {no:Int} (h:k=0∨k=5∨k=6∨k=9) (he:rgE e):RgS (.mk k x y e .nil .nil [] [] [] no):=by
 refine⟨fun _=>he,fun h1=>?_,fun h1=>?_,fun h1=>?_⟩<;>simp only[Sm.k]at h1<;>omega
theorem RgS.cd {k:Int} {c:Cd} {th el:List Sm} {no:Int} (h:k=10∨k=11∨k=12) (he:rgC c):RgS (.mk k [] [] .nil .nil c [] th el no):=by
 refine⟨fun h1=>?_,fun h1=>?_,fun _=>he,fun h1=>?_⟩<;>simp only[Sm.k]at h1<;>omega
theorem tgT_len (x:List UInt8):(tgtT x).length≤x.length+3:=by unfold tgtT;split<;>simp
structure RqB (N M d:Nat) (t:List Kt) (l:List Sm):Prop where
 p:okPr N M l
 r:okRg M l
 l:(lnX (lnB d l)).length≤wT t
theorem vB_len:∀(l:List Cs) (n:Int),(vB n l).length=l.length
 |[],n=>by simp[vB]
 |s::l,n=>by simp[vB,vB_len l]
mutual
theorem rq_S:∀(s:Cs) (N M d:Nat) (n:Int),s.wf→s.tk.length<N→s.tk.length≤4100→s.dp+d≤60→s.dp<M→RqS N M d s.tk (s.v n)
 | .asg x e,N,M,d,n,hw,hN,hl,hd,hM=>by
  simp only[Cs.tk,List.length_cons,List.length_append]at hN hl
  obtain⟨a,b,c⟩:=hw.2.rq (N:=N) (by omega)
  refine rq_fl (by omega) (by omega) (by omega) (by decide) a (nilE (by omega)) (nilC' (by omega)) nilA (.ex (by decide) b) ?_
  rw[hdk0]
  simp only[Cs.tk,wT_cons,wT_app,wT_nil,List.flatten_cons,List.flatten_nil,List.length_append,List.length_cons,List.length_nil];omega
 | .adr x y,N,M,d,n,hw,hN,hl,hd,hM=>by
  simp only[Cs.tk,List.length_cons,List.length_nil]at hN
  refine rq_fl (by omega) (by omega) (by omega) (by decide) (nilE (by omega)) (nilE (by omega)) (nilC' (by omega)) nilA (.no (by decide)) ?_
  rw[hdk1]
  simp only[Cs.tk,wT_cons,wT_app,wT_nil,List.flatten_cons,List.flatten_nil,List.length_append,List.length_cons,List.length_nil];omega
 | .nul x,N,M,d,n,hw,hN,hl,hd,hM=>by
  simp only[Cs.tk,List.length_cons,List.length_nil]at hN
  refine rq_fl (by omega) (by omega) (by omega) (by decide) (nilE (by omega)) (nilE (by omega)) (nilC' (by omega)) nilA (.no (by decide)) ?_
  rw[hdk3]
  simp only[Cs.tk,wT_cons,wT_app,wT_nil,List.flatten_cons,List.flatten_nil,List.length_append,List.length_cons,List.length_nil];omega
 | .lod x y,N,M,d,n,hw,hN,hl,hd,hM=>by
  simp only[Cs.tk,List.length_cons,List.length_nil]at hN
  refine rq_fl (by omega) (by omega) (by omega) (by decide) (nilE (by omega)) (nilE (by omega)) (nilC' (by omega)) nilA (.no (by decide)) ?_
  rw[hdk4]
  simp only[Cs.tk,wT_cons,wT_app,wT_nil,List.flatten_cons,List.flatten_nil,List.length_append,List.length_cons,List.length_nil];omega
 | .sto x e,N,M,d,n,hw,hN,hl,hd,hM=>by
  simp only[Cs.tk,List.length_cons,List.length_append]at hN hl
  obtain⟨a,b,c⟩:=hw.2.rq (N:=N) (by omega)
  refine rq_fl (by omega) (by omega) (by omega) (by decide) a (nilE (by omega)) (nilC' (by omega)) nilA (.ex (by decide) b) ?_
  rw[hdk5]
  simp only[Cs.tk,wT_cons,wT_app,wT_nil,List.flatten_cons,List.flatten_nil,List.length_append,List.length_cons,List.length_nil];omega
 | .idx x y e,N,M,d,n,hw,hN,hl,hd,hM=>by
  simp only[Cs.tk,List.length_cons,List.length_append]at hN hl
  obtain⟨a,b,c⟩:=hw.2.2.rq (N:=N) (by omega)
  refine rq_fl (by omega) (by omega) (by omega) (by decide) a (nilE (by omega)) (nilC' (by omega)) nilA (.ex (by decide) b) ?_
  rw[hdk6]
  simp only[Cs.tk,wT_cons,wT_app,wT_nil,List.flatten_cons,List.flatten_nil,List.length_append,List.length_cons,List.length_nil];omega
 | .put y e f,N,M,d,n,hw,hN,hl,hd,hM=>by
  simp only[Cs.tk,List.length_cons,List.length_append]at hN hl
  obtain⟨a,b,c⟩:=hw.2.1.rq (N:=N) (by omega)
  obtain⟨a',b',c'⟩:=hw.2.2.rq (N:=N) (by omega)
  refine rq_fl (by omega) (by omega) (by omega) (by decide) a a' (nilC' (by omega)) nilA ⟨fun _=>b,fun _=>b',fun h=>by simp only[Sm.k]at h;omega,fun h=>by simp only[Sm.k]at h;omega⟩ ?_
  rw[hdk7]
  simp only[Cs.tk,wT_cons,wT_app,wT_nil,List.flatten_cons,List.flatten_nil,List.length_append,List.length_cons,List.length_nil];omega
 | .cal none y l,N,M,d,n,hw,hN,hl,hd,hM=>by
  simp only[Cs.tk,List.length_cons,List.length_append,List.length_nil]at hN hl
  obtain⟨a,b,c⟩:=ag_rq hw.2 (N:=N) (by omega) (by omega)
  refine rq_fl (by omega) (by omega) (by omega) (by decide) (nilE (by omega)) (nilE (by omega)) (nilC' (by omega)) a ⟨fun h=>by simp only[Sm.k]at h;omega,fun h=>by simp only[Sm.k]at h;omega,fun h=>by simp only[Sm.k]at h;omega,fun _=>b⟩ ?_
  have:=tgT_len []
  rw[hdk8]
  simp only[Cs.tk,wT_cons,wT_app,wT_nil,List.flatten_cons,List.flatten_nil,List.length_append,List.length_cons,List.length_nil]at this ⊢;omega
 | .cal (some x) y l,N,M,d,n,hw,hN,hl,hd,hM=>by
  simp only[Cs.tk,List.length_cons,List.length_append,List.length_nil]at hN hl
  obtain⟨a,b,c⟩:=ag_rq hw.2.2 (N:=N) (by omega) (by omega)
  refine rq_fl (by omega) (by omega) (by omega) (by decide) (nilE (by omega)) (nilE (by omega)) (nilC' (by omega)) a ⟨fun h=>by simp only[Sm.k]at h;omega,fun h=>by simp only[Sm.k]at h;omega,fun h=>by simp only[Sm.k]at h;omega,fun _=>b⟩ ?_
  have:=tgT_len x
  rw[hdk8]
  simp only[Cs.tk,wT_cons,wT_app,wT_nil,List.flatten_cons,List.flatten_nil,List.length_append,List.length_cons,List.length_nil]at this ⊢;omega
 | .ret e,N,M,d,n,hw,hN,hl,hd,hM=>by
  simp only[Cs.tk,List.length_cons,List.length_append]at hN hl
  obtain⟨a,b,c⟩:=exO.rq hw (N:=N) (by omega)
  refine rq_fl (by omega) (by omega) (by omega) (by decide) a (nilE (by omega)) (nilC' (by omega)) nilA (.ex (by decide) b) ?_
  rw[hdk9]
  simp only[Cs.tk,wT_cons,wT_app,wT_nil,List.flatten_cons,List.flatten_nil,List.length_append,List.length_cons,List.length_nil];omega
 | .ass c,N,M,d,n,hw,hN,hl,hd,hM=>by
  simp only[Cs.tk,List.length_cons,List.length_append]at hN hl
  obtain⟨a,b,e,g⟩:=c.rg hw
  refine rq_fl (by omega) (by omega) (by omega) (by decide) (nilE (by omega)) (nilE (by omega)) ⟨b,by omega⟩ nilA (.cd (by decide) a) ?_
  rw[hdk12]
  simp only[Cs.tk,wT_cons,wT_app,wT_nil,List.flatten_cons,List.flatten_nil,List.length_append,List.length_cons,List.length_nil];omega
 | .whi c b,N,M,d,n,hw,hN,hl,hd,hM=>by
  simp only[Cs.tk,List.length_cons,List.length_append,List.length_nil]at hN hl
  simp only[Cs.dp]at hd hM
  obtain⟨a,g,e,h⟩:=c.rg hw.1
  have k:=rq_B b N M (d+1) (n+1) hw.2 (by omega) (by omega) (by omega) (by omega)
  refine⟨⟨⟨(nilE (by omega)).2,(nilE (by omega)).2,by show c.v.dp<N;omega,(fun a h=>by cases h),Nat.zero_le _⟩,(by show (0:Int)≤11;decide),(by show (11:Int)≤12;decide),trivial,trivial,g,(fun a h=>by cases h)⟩,.cd (by decide) a,k.p,okPr_nil' (by omega),k.r,okRg_nil (by omega),?_⟩
  have kl:=k.l
  have l1:=lT_len d [[119,104,105,108,101,32,40],coT c.v,[41,32,123]]
  have l2:=lT_len d [[125]]
  rw[lnS_eq]
  simp only[Cs.v,Sm.k,Sm.th,Sm.no,Int.reduceBEq,if_true,if_false,Bool.false_eq_true,hdk11,lnX_o,lnX_app,lnX_cl,lnX_nil,List.append_nil,List.length_append]
  simp only[Cs.tk,wT_cons,wT_app,wT_nil,List.flatten_cons,List.flatten_nil,List.length_append,List.length_cons,List.length_nil]at l1 l2 ⊢;omega
 | .ite c b none,N,M,d,n,hw,hN,hl,hd,hM=>by
  simp only[Cs.tk,List.length_cons,List.length_append,List.length_nil]at hN hl
  simp only[Cs.dp]at hd hM
  obtain⟨a,g,e,h⟩:=c.rg hw.1
  have k:=rq_B b N M (d+1) (n+1) hw.2 (by omega) (by omega) (by omega) (by omega)
  refine⟨⟨⟨(nilE (by omega)).2,(nilE (by omega)).2,by show c.v.dp<N;omega,(fun a h=>by cases h),Nat.zero_le _⟩,(by show (0:Int)≤10;decide),(by show (10:Int)≤12;decide),trivial,trivial,g,(fun a h=>by cases h)⟩,.cd (by decide) a,k.p,okPr_nil' (by omega),k.r,okRg_nil (by omega),?_⟩
  have kl:=k.l
  have l1:=lT_len d [[105,102,32,40],coT c.v,[41,32,123]]
  have l2:=lT_len d [[125]]
  rw[lnS_eq]
  simp only[Cs.v,Sm.k,Sm.th,Sm.el,Sm.no,Int.reduceBEq,if_true,List.isEmpty_nil,List.nil_append,hdk10,lnX_o,lnX_app,lnX_cl,lnX_nil,List.append_nil,List.length_append]
  simp only[Cs.tk,wT_cons,wT_app,wT_nil,List.flatten_cons,List.flatten_nil,List.length_append,List.length_cons,List.length_nil]at l1 l2 ⊢;omega
 | .ite c b (some e),N,M,d,n,hw,hN,hl,hd,hM=>by
  simp only[Cs.tk,List.length_cons,List.length_append,List.length_nil]at hN hl
  simp only[Cs.dp]at hd hM
  obtain⟨a,g,q,h⟩:=c.rg hw.1
  have k:=rq_B b N M (d+1) (n+1) hw.2.1 (by omega) (by omega) (by omega) (by omega)
  have k2:=rq_B e N M (d+1) (n+1+ctB b) hw.2.2 (by omega) (by omega) (by omega) (by omega)
  refine⟨⟨⟨(nilE (by omega)).2,(nilE (by omega)).2,by show c.v.dp<N;omega,(fun a h=>by cases h),Nat.zero_le _⟩,(by show (0:Int)≤10;decide),(by show (10:Int)≤12;decide),trivial,trivial,g,(fun a h=>by cases h)⟩,.cd (by decide) a,k.p,k2.p,k.r,k2.r,?_⟩
  have kl:=k.l
  have kl2:=k2.l
  have l1:=lT_len d [[105,102,32,40],coT c.v,[41,32,123]]
  have l2:=lT_len d [[125]]
  have l3:=lT_len d [[125,32,101,108,115,101,32,123]]
  rw[lnS_eq]
  simp only[Cs.v,Sm.k,Sm.th,Sm.el,Sm.no,Int.reduceBEq,if_true]
  simp only[Cs.tk,wT_cons,wT_app,wT_nil,List.flatten_cons,List.flatten_nil,List.length_append,List.length_cons,List.length_nil]at l1 l2 l3 ⊢
  rcases Bool.eq_false_or_eq_true (vB (n+1+(ctB b:Int)) e).isEmpty with hE|hE
  ·simp only[hE,if_true,List.nil_append,hdk10,lnX_o,lnX_app,lnX_cl,lnX_nil,List.append_nil,List.length_append];omega
  ·simp only[hE,Bool.false_eq_true,if_false,List.cons_append,hdk10,lnX_o,lnX_app,lnX_els,lnX_cl,lnX_nil,List.append_nil,List.length_append];omega
theorem rq_B:∀(l:List Cs) (N M d:Nat) (n:Int),wfB l→(tkB l).length<N→(tkB l).length≤4100→dpB l+d≤60→dpB l+1<M→RqB N M d (tkB l) (vB n l)
 |[],N,M,d,n,hw,hN,hl,hd,hM=>⟨by rw[vB];exact okPr_nil' (by omega),by rw[vB];exact okRg_nil (by omega),by rw[vB,lnB_nil];exact Nat.zero_le _⟩
 |s::l,N,M,d,n,hw,hN,hl,hd,hM=>by
  have htl:=tkB_len (s::l)
  simp only[tkB,List.length_append,dpB]at hN hl hd hM
  obtain⟨M,rfl⟩:∃j,M=j+1:=⟨M-1,by omega⟩
  have a:=rq_S s N M d n hw.1 (by omega) (by omega) (by omega) (by omega)
  have b:=rq_B l N (M+1) d (n+s.ct) hw.2 (by omega) (by omega) (by omega) (by omega)
  have bp:=b.p
  have br:=b.r
  have bl:=b.l
  have al:=a.l
  refine⟨⟨?_,?_⟩,?_,?_⟩
  ·rw[vB_len];simp only[tkB,List.length_append]at htl;omega
  ·intro x hx
   rw[vB]at hx
   rcases List.mem_cons.1 hx with rfl|hx
   ·exact⟨a.p,a.pt,a.pe⟩
   ·exact bp.2 x hx
  ·intro x hx
   rw[vB]at hx
   rcases List.mem_cons.1 hx with rfl|hx
   ·exact⟨a.r,a.rt,a.re⟩
   ·exact br x hx
  ·rw[vB,lnB_cons,lnX_len_app,tkB,wT_app];omega
end
end Go.Proofs.YtbiepiggmagfcaaGreatDoor
