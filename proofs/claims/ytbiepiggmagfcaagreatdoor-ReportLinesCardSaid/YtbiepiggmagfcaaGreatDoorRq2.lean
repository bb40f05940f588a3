/- Statements and functions that are written: of known kinds, with their parts, and not too long as text. No conditions but those in each statement. -/
import Derived.Test.YtbiepiggmagfcaaGreatDoorCx5
import Derived.Test.YtbiepiggmagfcaaGreatDoorPp
set_option linter.unusedVariables false
set_option linter.unusedSimpArgs false
open List (length_append length_cons length_nil append_assoc append_nil cons_append flatten_cons flatten_nil)
namespace Go.Proofs.YtbiepiggmagfcaaGreatDoor
open Go Go.Sy Go.RowKit
structure RqS (N M d:Nat) (t:List Kt) (s:Sm):Prop where
 p:PrS N s
 r:RgS s
 pt:Cp N M s.th
 pe:Cp N M s.el
 rt:ER M s.th
 re:ER M s.el
 l:(lnX (lnS d s)).length≤wT t
theorem Ly {M:Nat} (h:0<M):ER M []:=by
 cases M with
 |zero=>omega
 |succ M=>intro s hs;cases hs
theorem K9 {N M:Nat} (h:0<M):Cp N M []:=by
 cases M with
 |zero=>omega
 |succ M=>exact⟨Nat.zero_le _,fun s hs=>by cases hs⟩
theorem lF (d:Nat) (s:Sm) (h1:(s.k==10)=false) (h2:(s.k==11)=false):(lnX (lnS d s)).length=d+(hdL s).flatten.length+1:=by
 rw[BJ]
 simp only[h1,h2,if_false,jB]
 rw[BM,AO,append_nil,As]
theorem IB {N M d:Nat} {t:List Kt} {k:Int} {x y:List UInt8} {e f:Ex} {c:Cd} {ar:List Ar} {no:Int} (hM:0<M) (hN:0<N) (hd:d≤60) (hk:0≤k∧k≤12∧k≠10∧k≠11) (he:okN e∧e.dp<N) (hf:okN f∧f.dp<N) (hc:MZ c∧c.dp<N) (ha:(∀a∈ar,okN a.e∧a.e.dp<N)∧ar.length≤5000) (hr:RgS (.mk k x y e f c ar [] [] no)) (hl:(hdL (.mk k x y e f c ar [] [] no)).flatten.length+100≤wT t):RqS N M d t (.mk k x y e f c ar [] [] no):=by
 refine⟨⟨⟨he.2,hf.2,hc.2,fun a h=>(ha.1 a h).2,ha.2⟩,hk.1,hk.2.1,he.1,hf.1,hc.1,fun a h=>(ha.1 a h).1⟩,hr,K9 hM,K9 hM,Ly hM,Ly hM,?_⟩
 rw[lF d _ (by simp only[Sm.k,beq_eq_false_iff_ne];exact hk.2.2.1) (by simp only[Sm.k,beq_eq_false_iff_ne];exact hk.2.2.2)]
 omega
theorem Dk {N:Nat} (h:0<N):okN .nil∧Ex.dp .nil<N:=⟨trivial,h⟩
theorem nilC' {N:Nat} (h:0<N):MZ .nil∧Cd.dp .nil<N:=⟨trivial,h⟩
theorem OX {N:Nat}:(∀a∈([]:List Ar),okN a.e∧a.e.dp<N)∧([]:List Ar).length≤5000:=⟨(fun a h=>by cases h),Nat.zero_le _⟩
theorem exO.rq {e:Cx} (h:exO e) {N:Nat} (hN:e.tk.length<N):(okN e.v∧e.v.dp<N)∧rgE e.v∧(exT e.v).length≤wT e.tk:=by
 obtain⟨a,b,c,d⟩:=e.rg h.1
 exact⟨⟨b,by omega⟩,a,c⟩
theorem iA (l:List (List UInt8)):(jnT l).length≤Lib.lens l+2*l.length:=by
 cases l with
 |nil=>exact Nat.zero_le _
 |cons a l=>
  unfold jnT
  rw[Lib.join_length]
  simp only[length_cons,length_nil];omega
theorem iB:∀l:List Cx,(∀e∈l,exO e)→Lib.lens ((agA l).map Az)+2*l.length≤wT (agK l)
 |[],_=>by simp[agA,Lib.lens]
 |[c],h=>by
  obtain⟨_,_,b,_⟩:=c.rg (h c (by simp)).1
  have e:Lib.lens ((agA [c]).map Az)=(exT c.v).length:=by simp[agA,Lib.lens,Az]
  rw[e,agK,C5,B6]
  simp only[length_cons,length_nil];omega
 |c::d::l,h=>by
  have ih:=iB (d::l) fun e he=>h e (List.mem_cons_of_mem _ he)
  obtain⟨_,_,b,_⟩:=c.rg (h c (by simp)).1
  have e:Lib.lens ((agA (c::d::l)).map Az)=(exT c.v).length+Lib.lens ((agA (d::l)).map Az):=by simp[agA,Lib.lens,Az]
  have e2:wT (agK (c::d::l))=wT c.tk+((kO 44).2.length+200+wT (agK (d::l))):=by rw[agK,C5,B6];simp
  rw[e,e2]
  simp only[length_cons]at ih ⊢;omega
theorem nX:∀(l:List Cx) (e:Cx),e∈l→e.tk.length≤(agK l).length
 |[c],e,h=>by rw[List.mem_singleton.1 h];simp[agK]
 |c::d::l,e,h=>by
  rcases List.mem_cons.1 h with rfl|h
  ·simp only[agK,length_append];omega
  ·have:=nX (d::l) e h
   simp only[agK,length_append,length_cons]at this ⊢;omega
theorem nY {l:List Cx} (h:∀e∈l,exO e) {N:Nat} (hN:(agK l).length<N) (hl:(agK l).length≤4100):((∀a∈agA l,okN a.e∧a.e.dp<N)∧(agA l).length≤5000)∧(∀a∈agA l,a.p=false→rgE a.e)∧(jnT ((agA l).map Az)).length≤wT (agK l):=by
 refine⟨⟨fun a ha=>?_,?_⟩,fun a ha _=>?_,?_⟩
 ·obtain⟨e,he,rfl⟩:=List.mem_map.1 ha
  have:=nX l e he
  exact((h e he).rq (N:=N) (by omega)).1
 ·have:=Tr l
  simp only[agA,List.length_map];omega
 ·obtain⟨e,he,rfl⟩:=List.mem_map.1 ha
  exact(e.rg (h e he).1).1
 ·have h1:=iA ((agA l).map Az)
  have h2:=iB l h
  have h3:((agA l).map Az).length=l.length:=by simp[agA]
  rw[h3]at h1
  omega
theorem RgS.no {k:Int} {x y:List UInt8} {e f:Ex} {c:Cd} {ar:List Ar} {th el:List Sm} {no:Int} (h:k=1∨k=2∨k=3∨k=4):RgS (.mk k x y e f c ar th el no):=by
 refine⟨fun h1=>?_,fun h1=>?_,fun h1=>?_,fun h1=>?_⟩<;>simp only[Sm.k]at h1<;>omega
theorem RgS.ex {k:Int} {x y:List UInt8} {e:Ex} {no:Int} (h:k=0∨k=5∨k=6∨k=9) (he:rgE e):RgS (.mk k x y e .nil .nil [] [] [] no):=by
 refine⟨fun _=>he,fun h1=>?_,fun h1=>?_,fun h1=>?_⟩<;>simp only[Sm.k]at h1<;>omega
theorem RgS.cd {k:Int} {c:Cd} {th el:List Sm} {no:Int} (h:k=10∨k=11∨k=12) (he:rgC c):RgS (.mk k [] [] .nil .nil c [] th el no):=by
 refine⟨fun h1=>?_,fun h1=>?_,fun _=>he,fun h1=>?_⟩<;>simp only[Sm.k]at h1<;>omega
theorem aM (x:List UInt8):(FX x).length≤x.length+3:=by unfold FX;split<;>simp
structure RqB (N M d:Nat) (t:List Kt) (l:List Sm):Prop where
 p:Cp N M l
 r:ER M l
 l:(lnX (lnB d l)).length≤wT t
theorem iC:∀(l:List Cs) (n:Int),(vB n l).length=l.length
 |[],n=>by simp[vB]
 |s::l,n=>by simp[vB,iC l]
mutual
theorem A88:∀(s:Cs) (N M d:Nat) (n:Int),s.wf→s.tk.length<N→s.tk.length≤4100→s.dp+d≤60→s.dp<M→RqS N M d s.tk (s.v n)
 | .asg x e,N,M,d,n,hw,hN,hl,hd,hM=>by
  simp only[Cs.tk,length_cons,length_append]at hN hl
  obtain⟨a,b,c⟩:=hw.2.rq (N:=N) (by omega)
  refine IB (by omega) (by omega) (by omega) (by decide) a (Dk (by omega)) (nilC' (by omega)) OX (.ex (by decide) b) ?_
  rw[PX]
  simp only[Cs.tk,B6,C5,Cq,flatten_cons,flatten_nil,jL3];omega
 | .adr x y,N,M,d,n,hw,hN,hl,hd,hM=>by
  simp only[Cs.tk,length_cons,length_nil]at hN
  refine IB (by omega) (by omega) (by omega) (by decide) (Dk (by omega)) (Dk (by omega)) (nilC' (by omega)) OX (.no (by decide)) ?_
  rw[RS]
  simp only[Cs.tk,B6,C5,Cq,flatten_cons,flatten_nil,jL3];omega
 | .nul x,N,M,d,n,hw,hN,hl,hd,hM=>by
  simp only[Cs.tk,length_cons,length_nil]at hN
  refine IB (by omega) (by omega) (by omega) (by decide) (Dk (by omega)) (Dk (by omega)) (nilC' (by omega)) OX (.no (by decide)) ?_
  rw[RT]
  simp only[Cs.tk,B6,C5,Cq,flatten_cons,flatten_nil,jL3];omega
 | .lod x y,N,M,d,n,hw,hN,hl,hd,hM=>by
  simp only[Cs.tk,length_cons,length_nil]at hN
  refine IB (by omega) (by omega) (by omega) (by decide) (Dk (by omega)) (Dk (by omega)) (nilC' (by omega)) OX (.no (by decide)) ?_
  rw[RU]
  simp only[Cs.tk,B6,C5,Cq,flatten_cons,flatten_nil,jL3];omega
 | .sto x e,N,M,d,n,hw,hN,hl,hd,hM=>by
  simp only[Cs.tk,length_cons,length_append]at hN hl
  obtain⟨a,b,c⟩:=hw.2.rq (N:=N) (by omega)
  refine IB (by omega) (by omega) (by omega) (by decide) a (Dk (by omega)) (nilC' (by omega)) OX (.ex (by decide) b) ?_
  rw[RV]
  simp only[Cs.tk,B6,C5,Cq,flatten_cons,flatten_nil,jL3];omega
 | .idx x y e,N,M,d,n,hw,hN,hl,hd,hM=>by
  simp only[Cs.tk,length_cons,length_append]at hN hl
  obtain⟨a,b,c⟩:=hw.2.2.rq (N:=N) (by omega)
  refine IB (by omega) (by omega) (by omega) (by decide) a (Dk (by omega)) (nilC' (by omega)) OX (.ex (by decide) b) ?_
  rw[RW]
  simp only[Cs.tk,B6,C5,Cq,flatten_cons,flatten_nil,jL3];omega
 | .put y e f,N,M,d,n,hw,hN,hl,hd,hM=>by
  simp only[Cs.tk,length_cons,length_append]at hN hl
  obtain⟨a,b,c⟩:=hw.2.1.rq (N:=N) (by omega)
  obtain⟨a',b',c'⟩:=hw.2.2.rq (N:=N) (by omega)
  refine IB (by omega) (by omega) (by omega) (by decide) a a' (nilC' (by omega)) OX ⟨fun _=>b,fun _=>b',fun h=>by simp only[Sm.k]at h;omega,fun h=>by simp only[Sm.k]at h;omega⟩ ?_
  rw[RX]
  simp only[Cs.tk,B6,C5,Cq,flatten_cons,flatten_nil,jL3];omega
 | .cal none y l,N,M,d,n,hw,hN,hl,hd,hM=>by
  simp only[Cs.tk,length_cons,length_append,length_nil]at hN hl
  obtain⟨a,b,c⟩:=nY hw.2 (N:=N) (by omega) (by omega)
  refine IB (by omega) (by omega) (by omega) (by decide) (Dk (by omega)) (Dk (by omega)) (nilC' (by omega)) a ⟨fun h=>by simp only[Sm.k]at h;omega,fun h=>by simp only[Sm.k]at h;omega,fun h=>by simp only[Sm.k]at h;omega,fun _=>b⟩ ?_
  have:=aM []
  rw[J8]
  simp only[Cs.tk,B6,C5,Cq,flatten_cons,flatten_nil,jL3]at this ⊢;omega
 | .cal (some x) y l,N,M,d,n,hw,hN,hl,hd,hM=>by
  simp only[Cs.tk,length_cons,length_append,length_nil]at hN hl
  obtain⟨a,b,c⟩:=nY hw.2.2 (N:=N) (by omega) (by omega)
  refine IB (by omega) (by omega) (by omega) (by decide) (Dk (by omega)) (Dk (by omega)) (nilC' (by omega)) a ⟨fun h=>by simp only[Sm.k]at h;omega,fun h=>by simp only[Sm.k]at h;omega,fun h=>by simp only[Sm.k]at h;omega,fun _=>b⟩ ?_
  have:=aM x
  rw[J8]
  simp only[Cs.tk,B6,C5,Cq,flatten_cons,flatten_nil,jL3]at this ⊢;omega
 | .ret e,N,M,d,n,hw,hN,hl,hd,hM=>by
  simp only[Cs.tk,length_cons,length_append]at hN hl
  obtain⟨a,b,c⟩:=exO.rq hw (N:=N) (by omega)
  refine IB (by omega) (by omega) (by omega) (by decide) a (Dk (by omega)) (nilC' (by omega)) OX (.ex (by decide) b) ?_
  rw[RY]
  simp only[Cs.tk,B6,C5,Cq,flatten_cons,flatten_nil,jL3];omega
 | .ass c,N,M,d,n,hw,hN,hl,hd,hM=>by
  simp only[Cs.tk,length_cons,length_append]at hN hl
  obtain⟨a,b,e,g⟩:=c.rg hw
  refine IB (by omega) (by omega) (by omega) (by decide) (Dk (by omega)) (Dk (by omega)) ⟨b,by omega⟩ OX (.cd (by decide) a) ?_
  rw[OB]
  simp only[Cs.tk,B6,C5,Cq,flatten_cons,flatten_nil,jL3];omega
 | .whi c b,N,M,d,n,hw,hN,hl,hd,hM=>by
  simp only[Cs.tk,length_cons,length_append,length_nil]at hN hl
  simp only[Cs.dp]at hd hM
  obtain⟨a,g,e,h⟩:=c.rg hw.1
  have k:=UZ b N M (d+1) (n+1) hw.2 (by omega) (by omega) (by omega) (by omega)
  refine⟨⟨⟨(Dk (by omega)).2,(Dk (by omega)).2,by show c.v.dp<N;omega,(fun a h=>by cases h),Nat.zero_le _⟩,(by show (0:Int)≤11;decide),(by show (11:Int)≤12;decide),trivial,trivial,g,(fun a h=>by cases h)⟩,.cd (by decide) a,k.p,K9 (by omega),k.r,Ly (by omega),?_⟩
  have kl:=k.l
  have l1:=As d [[119,104,105,108,101,32,40],coT c.v,[41,32,123]]
  have l2:=As d [[125]]
  rw[BJ]
  simp only[Cs.v,Sm.k,Sm.th,Sm.no,Int.reduceBEq,if_true,if_false,jB,OA,BM,Bb,Dv,AO,append_nil,length_append]
  simp only[Cs.tk,B6,C5,Cq,flatten_cons,flatten_nil,jL3]at l1 l2 ⊢;omega
 | .ite c b none,N,M,d,n,hw,hN,hl,hd,hM=>by
  simp only[Cs.tk,length_cons,length_append,length_nil]at hN hl
  simp only[Cs.dp]at hd hM
  obtain⟨a,g,e,h⟩:=c.rg hw.1
  have k:=UZ b N M (d+1) (n+1) hw.2 (by omega) (by omega) (by omega) (by omega)
  refine⟨⟨⟨(Dk (by omega)).2,(Dk (by omega)).2,by show c.v.dp<N;omega,(fun a h=>by cases h),Nat.zero_le _⟩,(by show (0:Int)≤10;decide),(by show (10:Int)≤12;decide),trivial,trivial,g,(fun a h=>by cases h)⟩,.cd (by decide) a,k.p,K9 (by omega),k.r,Ly (by omega),?_⟩
  have kl:=k.l
  have l1:=As d [[105,102,32,40],coT c.v,[41,32,123]]
  have l2:=As d [[125]]
  rw[BJ]
  simp only[Cs.v,Sm.k,Sm.th,Sm.el,Sm.no,Int.reduceBEq,if_true,List.isEmpty_nil,List.nil_append,FG,BM,Bb,Dv,AO,append_nil,length_append]
  simp only[Cs.tk,B6,C5,Cq,flatten_cons,flatten_nil,jL3]at l1 l2 ⊢;omega
 | .ite c b (some e),N,M,d,n,hw,hN,hl,hd,hM=>by
  simp only[Cs.tk,length_cons,length_append,length_nil]at hN hl
  simp only[Cs.dp]at hd hM
  obtain⟨a,g,q,h⟩:=c.rg hw.1
  have k:=UZ b N M (d+1) (n+1) hw.2.1 (by omega) (by omega) (by omega) (by omega)
  have k2:=UZ e N M (d+1) (n+1+ctB b) hw.2.2 (by omega) (by omega) (by omega) (by omega)
  refine⟨⟨⟨(Dk (by omega)).2,(Dk (by omega)).2,by show c.v.dp<N;omega,(fun a h=>by cases h),Nat.zero_le _⟩,(by show (0:Int)≤10;decide),(by show (10:Int)≤12;decide),trivial,trivial,g,(fun a h=>by cases h)⟩,.cd (by decide) a,k.p,k2.p,k.r,k2.r,?_⟩
  have kl:=k.l
  have kl2:=k2.l
  have l1:=As d [[105,102,32,40],coT c.v,[41,32,123]]
  have l2:=As d [[125]]
  have l3:=As d [[125,32,101,108,115,101,32,123]]
  rw[BJ]
  simp only[Cs.v,Sm.k,Sm.th,Sm.el,Sm.no,Int.reduceBEq,if_true]
  simp only[Cs.tk,B6,C5,Cq,flatten_cons,flatten_nil,jL3]at l1 l2 l3 ⊢
  rcases Bool.eq_false_or_eq_true (vB (n+1+(ctB b:Int)) e).isEmpty with hE|hE
  ·simp only[hE,if_true,List.nil_append,FG,BM,Bb,Dv,AO,append_nil,length_append];omega
  ·simp only[hE,jB,if_false,cons_append,FG,BM,Bb,Qg,Dv,AO,append_nil,length_append];omega
theorem UZ:∀(l:List Cs) (N M d:Nat) (n:Int),wfB l→(tkB l).length<N→(tkB l).length≤4100→dpB l+d≤60→dpB l+1<M→RqB N M d (tkB l) (vB n l)
 |[],N,M,d,n,hw,hN,hl,hd,hM=>⟨by rw[vB];exact K9 (by omega),by rw[vB];exact Ly (by omega),by rw[vB,NW];exact Nat.zero_le _⟩
 |s::l,N,M,d,n,hw,hN,hl,hd,hM=>by
  have htl:=QF (s::l)
  simp only[tkB,length_append,dpB]at hN hl hd hM
  obtain⟨M,rfl⟩:∃j,M=j+1:=⟨M-1,by omega⟩
  have a:=A88 s N M d n hw.1 (by omega) (by omega) (by omega) (by omega)
  have b:=UZ l N (M+1) d (n+s.ct) hw.2 (by omega) (by omega) (by omega) (by omega)
  have bp:=b.p
  have br:=b.r
  have bl:=b.l
  have al:=a.l
  refine⟨⟨?_,?_⟩,?_,?_⟩
  ·rw[iC];simp only[tkB,length_append]at htl;omega
  ·intro x hx
   rw[vB]at hx
   rcases List.mem_cons.1 hx with rfl|hx
   ·exact⟨a.p,a.pt,a.pe⟩
   ·exact bp.2 x hx
  ·intro x hx
   rw[vB]at hx
   rcases List.mem_cons.1 hx with rfl|hx
   ·exact⟨a.r,a.rt,a.re⟩
   ·exact br x hx
  ·rw[vB,FY,MY,tkB,C5];omega
end
end Go.Proofs.YtbiepiggmagfcaaGreatDoor
namespace Go.Proofs.YtbiepiggmagfcaaGreatDoor
open Go Go.Sy Go.RowKit
def Lp (P:UInt8→Bool) (t:List UInt8) (ts:List Kt):Prop:=
 ∃n,n≤t.length∧∀(f i:Nat) (r:List UInt8) (out:List Tok),(∀c q,r=c::q→P c=true)→∃o2,o2.map kt=ts∧rxG (f+n) i (t++r) out=rxG f (i+t.length) r (out++o2)
def pT:UInt8→Bool:=fun _=>true
def pS:UInt8→Bool:=fun c=>!idB (c.toNat:Int)
abbrev Lw:=Lp pT
abbrev Lz:=Lp pS
theorem Lp.w {P:UInt8→Bool} {t:List UInt8} {ts:List Kt} (h:Lw t ts):Lp P t ts:=by
 obtain⟨n,h1,h2⟩:=h
 exact⟨n,h1,fun f i r out _=>h2 f i r out (fun _ _ _=>rfl)⟩
theorem Lp.app {P Q:UInt8→Bool} {t u:List UInt8} {ts us:List Kt} (h:Lp P t ts) (k:Lp Q u us) (hu:∃c q,u=c::q∧P c=true):Lp Q (t++u) (ts++us):=by
 obtain⟨n,h1,h2⟩:=h
 obtain⟨m,k1,k2⟩:=k
 refine⟨n+m,by rw[length_append];omega,fun f i r out hr=>?_⟩
 obtain⟨c,q,rfl,hc⟩:=hu
 obtain⟨o1,a1,a2⟩:=h2 (f+m) i ((c::q)++r) out (fun c' q' e=>by
  simp only[cons_append,List.cons.injEq]at e
  rw[← e.1];exact hc)
 obtain⟨o2,b1,b2⟩:=k2 f (i+t.length) r (out++o1) hr
 refine⟨o1++o2,by rw[List.map_append,a1,b1],?_⟩
 rw[append_assoc,show f+(n+m)=f+m+n by omega,a2,b2,length_append,Nat.add_assoc,append_assoc]
theorem Lp.wapp {Q:UInt8→Bool} {t u:List UInt8} {ts us:List Kt} (h:Lw t ts) (k:Lp Q u us):Lp Q (t++u) (ts++us):=by
 obtain⟨n,h1,h2⟩:=h
 obtain⟨m,k1,k2⟩:=k
 refine⟨n+m,by rw[length_append];omega,fun f i r out hr=>?_⟩
 obtain⟨o1,a1,a2⟩:=h2 (f+m) i (u++r) out (fun _ _ _=>rfl)
 obtain⟨o2,b1,b2⟩:=k2 f (i+t.length) r (out++o1) hr
 refine⟨o1++o2,by rw[List.map_append,a1,b1],?_⟩
 rw[append_assoc,show f+(n+m)=f+m+n by omega,a2,b2,length_append,Nat.add_assoc,append_assoc]
theorem Lp.nil {P:UInt8→Bool}:Lp P [] []:=⟨0,Nat.le_refl _,fun f i r out _=>⟨[],rfl,by simp⟩⟩
theorem Lp.of {t:List UInt8} {n:Nat} {ts:List Kt} (o:Nat→List Tok) (hn:n≤t.length) (h:∀i,(o i).map kt=ts) (h2:∀(f i:Nat) (r:List UInt8) (out:List Tok),rxG (f+n) i (t++r) out=rxG f (i+t.length) r ((o i).foldl (fun o t=>o++[t]) out)):Lw t ts:=
 ⟨n,hn,fun f i r out _=>⟨o i,h i,by rw[h2,iI]⟩⟩
theorem Pj (p:Int→Bool):∀(s r:List UInt8),(∀c∈s,p (c.toNat:Int)=true)→(∀c q,r=c::q→p (c.toNat:Int)=false)→spanN p (s++r)=s.length
 |[],r,_,hr=>by
  cases r with
  |nil=>rfl
  |cons c q=>
   show spanN p (c::q)=0
   simp only[spanN]
   rw[if_neg (by rw[hr c q rfl];decide)]
 |c::s,r,h,hr=>by
  rw[cons_append,spanN,if_pos (h c (by simp)),Pj p s r (fun c hc=>h c (List.mem_cons_of_mem _ hc)) hr];rfl
theorem yB {c:Int} (h:CZ c=true):blB c=false∧(c==35)=false:=by
 simp only[CZ,Bool.or_eq_true,Bool.and_eq_true,decide_eq_true_eq,beq_iff_eq]at h
 simp only[blB,Bool.or_eq_false_iff,beq_eq_false_iff_ne]
 omega
theorem yC {c:Int} (h:AR c=true):blB c=false∧(c==35)=false∧CZ c=false:=by
 simp only[AR,Bool.and_eq_true,decide_eq_true_eq]at h
 simp only[blB,CZ,Bool.or_eq_false_iff,beq_eq_false_iff_ne,Bool.and_eq_false_iff,decide_eq_false_iff_not]
 omega
theorem nZ {s:List UInt8} (h:lh s) (hs:∀c∈s,idB (c.toNat:Int)=true) (hl:s.length≤32):Lz s [(0,s)]:=by
 obtain⟨c,t,rfl,hc⟩:=h
 refine⟨1,by simp,fun f i r out hr=>⟨[⟨0,c::t,(i:Int)⟩],rfl,?_⟩⟩
 obtain⟨b1,b2⟩:=yB hc
 have hsp:=Pj idB (c::t) r hs (fun c' q e=>by have:=hr c' q e;simpa [pS] using this)
 rw[cons_append]at hsp ⊢
 simp only[rxG]
 rw[if_neg (by rw[b1];decide),if_neg (by rw[b2];decide),if_pos hc,hsp,if_neg (by simp only[decide_eq_true_eq];omega)]
 have e1:(c::(t++r)).drop (c::t).length=r:=by rw[← cons_append,List.drop_left]
 have e2:(c::(t++r)).take (c::t).length=c::t:=by rw[← cons_append,List.take_left]
 rw[e1,e2]
structure numO (d:List UInt8):Prop where
 dg:∀c∈d,AR (c.toNat:Int)=true
 n:d≠[]
 z:d.length=1∨d.head?≠some 48
 g:(dgF d 0 false).2=false∧(dgF d 0 false).1≤9223372036854775807
theorem Ua:∀(d r:List UInt8) (n:Int) (g:Bool),(∀c∈d,AR (c.toNat:Int)=true)→(∀c q,r=c::q→AR (c.toNat:Int)=false)→dgF (d++r) n g=dgF d n g
 |[],r,n,g,_,hr=>by
  cases r with
  |nil=>rfl
  |cons c q=>
   show dgF (c::q) n g=(n,g)
   simp only[dgF]
   rw[if_neg (by rw[hr c q rfl];decide)]
 |c::d,r,n,g,h,hr=>by
  rw[cons_append]
  simp only[dgF]
  have ih:=fun n g=>Ua d r n g (fun c hc=>h c (List.mem_cons_of_mem _ hc)) hr
  rw[ih,ih]
theorem nd {d:List UInt8} (h:numO d):Lz d [(1,d)]:=by
 obtain⟨hd,hn,hz,hg⟩:=h
 cases d with
 |nil=>exact absurd rfl hn
 |cons c t=>
 have hc:=hd c (by simp)
 refine⟨1,by simp,fun f i r out hr=>⟨[⟨1,c::t,(i:Int)⟩],rfl,?_⟩⟩
 obtain⟨b1,b2,b3⟩:=yC hc
 have hno:∀c' q,r=c'::q→CZ (c'.toNat:Int)=false∧AR (c'.toNat:Int)=false:=fun c' q e=>by
  have:=hr c' q e
  simpa [pS,idB] using this
 have hsp:=Pj AR (c::t) r hd (fun c' q e=>(hno c' q e).2)
 have hdg:=Ua (c::t) r 0 false hd (fun c' q e=>(hno c' q e).2)
 rw[cons_append]at hsp hdg ⊢
 have e1:(c::(t++r)).drop (c::t).length=r:=by rw[← cons_append,List.drop_left]
 have e2:(c::(t++r)).take (c::t).length=c::t:=by rw[← cons_append,List.take_left]
 have hG:O1 (c::(t++r))=false:=by
  unfold O1
  rw[hdg,hg.1,Bool.false_or,decide_eq_false_iff_not]
  have:=hg.2;omega
 have hL:(decide (0<r.length)&&CZ (((r.getD 0 0).toNat:Nat):Int))=false:=by
  cases r with
  |nil=>rfl
  |cons c' q=>
   have:=(hno c' q rfl).1
   show (_&&CZ (c'.toNat:Int))=false
   rw[this,Bool.and_false]
 have hZ:(((c.toNat:Int)==48)&&decide (1<(((c::t).length:Nat):Int)))=false:=by
  rcases hz with hz|hz
  ·have:decide (1<(((c::t).length:Nat):Int))=false:=by rw[decide_eq_false_iff_not,hz];decide
   rw[this,Bool.and_false]
  ·have:((c.toNat:Int)==48)=false:=by
    rw[beq_eq_false_iff_ne]
    intro h0
    apply hz
    have:c=48:=UInt8.toNat_inj.1 (by show c.toNat=48;omega)
    rw[this];rfl
   rw[this,Bool.false_and]
 simp only[rxG]
 rw[if_neg (by rw[b1];decide),if_neg (by rw[b2];decide),if_neg (by rw[b3];decide),if_pos hc,hsp,e1,e2,if_neg (by rw[hG];decide),hL,hZ,if_neg (by decide)]
def twB (l:List UInt8):Bool:=decide (2≤l.length)&&(l.take 2==[61,61]||l.take 2==[33,61]||l.take 2==[60,61]||l.take 2==[62,61]||l.take 2==[38,38]||l.take 2==[124,124])
theorem A3H (c d:UInt8) (r:List UInt8):twB (c::d::r)=((c==61&&d==61)||(c==33&&d==61)||(c==60&&d==61)||(c==62&&d==61)||(c==38&&d==38)||(c==124&&d==124)):=by
 have h:decide (2≤(c::d::r).length)=true:=by simp
 unfold twB
 rw[h,Bool.true_and]
 show (([c,d]==[61,61])||([c,d]==[33,61])||([c,d]==[60,61])||([c,d]==[62,61])||([c,d]==[38,38])||([c,d]==[124,124]))=_
 have e:∀x y:UInt8,([c,d]==[x,y])=(c==x&&d==y):=by
  intro x y
  show (c==x&&(d==y&&true))=_
  rw[Bool.and_true]
 rw[e,e,e,e,e,e]
theorem yD (f i:Nat) (c:UInt8) (r:List UInt8) (out:List Tok) (h1:Gm KR (c.toNat:Int)=true) (h2:(blB (c.toNat:Int)||(c.toNat:Int)==35||CZ (c.toNat:Int)||AR (c.toNat:Int))=false) (h3:twB (c::r)=false):rxG (f+1) i (c::r) out=rxG f (i+1) r (out++[⟨2,[c],(i:Int)⟩]):=by
 simp only[Bool.or_eq_false_iff]at h2
 obtain⟨⟨⟨a1,a2⟩,a3⟩,a4⟩:=h2
 simp only[rxG]
 rw[if_neg (by rw[a1];decide),if_neg (by rw[a2];decide),if_neg (by rw[a3];decide),if_neg (by rw[a4];decide)]
 have h3':(decide (2≤(c::r).length)&&((c::r).take 2==[61,61]||(c::r).take 2==[33,61]||(c::r).take 2==[60,61]||(c::r).take 2==[62,61]||(c::r).take 2==[38,38]||(c::r).take 2==[124,124]))=false:=h3
 rw[if_neg (by rw[h3'];decide),if_pos h1]
 rfl
theorem cq (P:UInt8→Bool) (c:UInt8) (h1:Gm KR (c.toNat:Int)=true:=by decide) (h2:(blB (c.toNat:Int)||(c.toNat:Int)==35||CZ (c.toNat:Int)||AR (c.toNat:Int))=false:=by decide)
  (h3:∀d,P d=true→((c==61&&d==61)||(c==33&&d==61)||(c==60&&d==61)||(c==62&&d==61)||(c==38&&d==38)||(c==124&&d==124))=false):Lp P [c] [(2,[c])]:=by
 refine⟨1,Nat.le_refl _,fun f i r out hr=>⟨[⟨2,[c],(i:Int)⟩],rfl,?_⟩⟩
 refine yD f i c r out h1 h2 ?_
 cases r with
 |nil=>unfold twB;rw[show decide (2≤[c].length)=false from rfl,Bool.false_and]
 |cons d q=>rw[A3H];exact h3 d (hr d q rfl)
theorem Bs (c:UInt8) (h1:Gm KR (c.toNat:Int)=true:=by decide) (h2:(blB (c.toNat:Int)||(c.toNat:Int)==35||CZ (c.toNat:Int)||AR (c.toNat:Int))=false:=by decide) (h3:(c==61||c==33||c==60||c==62||c==38||c==124)=false:=by decide):Lw [c] [(2,[c])]:=by
 refine cq pT c h1 h2 fun d _=>?_
 simp only[Bool.or_eq_false_iff]at h3
 obtain⟨⟨⟨⟨⟨a1,a2⟩,a3⟩,a4⟩,a5⟩,a6⟩:=h3
 rw[a1,a2,a3,a4,a5,a6];rfl
def pE:UInt8→Bool:=fun c=>!(c==61)
def pA:UInt8→Bool:=fun c=>!(c==38)
theorem ng (c:UInt8) (h1:Gm KR (c.toNat:Int)=true:=by decide) (h2:(blB (c.toNat:Int)||(c.toNat:Int)==35||CZ (c.toNat:Int)||AR (c.toNat:Int))=false:=by decide) (h3:(c==38||c==124)=false:=by decide):Lp pE [c] [(2,[c])]:=by
 refine cq pE c h1 h2 fun d hd=>?_
 simp only[Bool.or_eq_false_iff]at h3
 simp only[pE,Bool.not_eq_true']at hd
 rw[hd,h3.1,h3.2];simp
theorem nh:Lp pA [38] [(2,[38])]:=by
 refine cq pA 38 (by decide) (by decide) fun d hd=>?_
 simp only[pA,Bool.not_eq_true']at hd
 rw[hd];simp
theorem A3I (c:UInt8) (h:blB (c.toNat:Int)=true:=by decide):Lw [c] []:=by
 refine⟨1,Nat.le_refl _,fun f i r out _=>⟨[],rfl,?_⟩⟩
 show rxG (f+1) i (c::r) out=_
 simp only[rxG]
 rw[if_pos h,append_nil];rfl
theorem TR {t:List UInt8} {ts:List Kt} (h:Lw t ts) (hl:t.length≤4096):∃T,rxT t=(T,0,0)∧T.map kt=ts:=by
 obtain⟨n,h1,h2⟩:=h
 have hr:rxT t=rxG t.length 0 t []:=by
  unfold rxT
  rw[if_neg (by simp;omega),TX _ _ _ _ (Nat.zero_le _)];rfl
 obtain⟨o,a1,a2⟩:=h2 (t.length-n) 0 [] [] (fun _ _ e=>by cases e)
 rw[append_nil,show t.length-n+n=t.length by omega]at a2
 refine⟨o,?_,a1⟩
 rw[hr,a2]
 cases t.length-n<;>rfl
end Go.Proofs.YtbiepiggmagfcaaGreatDoor
