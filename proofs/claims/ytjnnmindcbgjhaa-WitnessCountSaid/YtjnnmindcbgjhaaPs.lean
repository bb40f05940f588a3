/- The seat's programs, walked. Conditions: bytes; units that are not too deep. -/
import Derived.Test.YtjnnmindcbgjhaaUt
import Derived.Test.YtjnnmindcbgjhaaKr
set_option linter.unusedVariables false
set_option linter.unusedSimpArgs false
set_option maxRecDepth 20000
set_option maxHeartbeats 16000000
open List (length_cons)
namespace Go.Proofs.Ytjnnmindcbgjhaa
open Go Go.Sy Go.RowKit
theorem u7 {l:List Un}:∀q,some q∈[some (ML.vec zUc (l.map Un.c))]→DO 1 q:=by
 intro q hq c hc
 simp only[List.mem_cons,jS,List.not_mem_nil,or_false]at hq
 subst hq
 simp only[ML.cells]at hc
 obtain⟨r,hr,hcr⟩:=List.mem_flatMap.1 hc
 obtain⟨u,_,rfl⟩:=List.mem_map.1 hr
 simp only[Un.c,id,List.mem_cons,List.not_mem_nil,or_false]at hcr
 rcases hcr with rfl|rfl<;>exact .inl rfl
section
variable {X:Ctx} {w0:World}
noncomputable def SR:Sy.Spec Try.prog X w0:=Dj 30 Try.call30 UD WW (fun _=>false) QR M_Un (fun _=>mlO [])
 (fun p _ _=>⟨rfl,rfl,rfl,u7⟩) (fun a _ h=>by cases h) (fun a _ h=>by cases h) (fun _=>rfl) sE
theorem fq:(SR (X:=X) (w0:=w0)).f=30:=rfl
theorem fr (t:Nat) (args:List SV) (H:Hp):(SR (X:=X) (w0:=w0)).fn t args H=spL X (UD.d H args) t H WW (fun _=>false) QR M_Un (fun _=>mlO []):=rfl
end
theorem u9 (ρ:Nat→Nat) (l:List Un):(l.map Un.c).map (fun r=>r.map (rnC ρ))=l.map Un.c:=GH Un.c (fun _=>rfl) l
theorem cq:∀l:List Un,OZ mUn.d (l.map Un.c)=some l
 |[]=>rfl
 |u::l=>by
  have h:mUn.d (Un.c u)=some u:=HC Yy u
  simp only[List.map_cons,OZ,h,cq l]
theorem mW (g:Int) (l:List (List Int)):(utF g l).length≤10:=by
 have h1:=VS l (utN l)
 have h2:utN l≤4:=by unfold utN;split<;>omega
 unfold utF
 split
 ·simp only[List.length_append,List.length_take,length_cons,List.length_drop];omega
 ·simp only[List.length_append,length_cons,List.length_nil];omega
def sPg (m:Nat) (gl:List UInt8→List Gi) (g:Int) (l:List (List Int)):Pg:=prF m gl (utF g l)
abbrev Wz (n:Nat) (m:Nat) (gl:List UInt8→List Gi) (g:Int) (l:List (List Int)):Prop:=WW (g,l,())∧∀u∈utF g l,okUn n m gl u
abbrev Qw (n:Nat) (m:Nat) (gl:List UInt8→List Gi) (g:Int) (l:List (List Int)):SV:=.agg (pqR (sPg m gl g l))
noncomputable abbrev X0:ArgC ((Int)×(List (List Int))×Unit):=(acS (cInt .u8) (acS (cBl) ac0))
abbrev cr (n:Nat) (m:Nat) (gl:List UInt8→List Gi):Prop:=CY Try.prog 13 X0 (fun p:(Int)×(List (List Int))×Unit=>Wz n m gl p.1 p.2.1) (fun p:(Int)×(List (List Int))×Unit=>Qw n m gl p.1 p.2.1)
theorem uA (n:Nat) (m:Nat) (gl:List UInt8→List Gi):∀p:(Int)×(List (List Int))×Unit,((fun p:(Int)×(List (List Int))×Unit=>Qw n m gl p.1 p.2.1) p).names=[]:=by intro p;rfl
noncomputable def ct {X:Ctx} {w0:World} (n:Nat) (m:Nat) (gl:List UInt8→List Gi) (h:cr n m gl):Sy.Spec Try.prog X w0:=D5 13 Try.call13 X0 (fun p:(Int)×(List (List Int))×Unit=>Wz n m gl p.1 p.2.1) (fun p:(Int)×(List (List Int))×Unit=>Qw n m gl p.1 p.2.1) (uA n m gl) h
theorem A0h (n:Nat) (m:Nat) (gl:List UInt8→List Gi):cr n m gl:=by
 rintro ⟨g,l,_u⟩ w fz xs hc hfz hl hx
 refine BH Try.func13 rfl w fz [SR,(Re n m gl (y_Prog n m gl))] [] X0 (fun p:(Int)×(List (List Int))×Unit=>Qw n m gl p.1 p.2.1) _ xs hfz hl hx (jN rfl) ?_
 clear hx hl hfz xs
 simp only[Try.f13]
 obtain⟨h1,h2⟩:=hc
 simp only[↓eB,seval,go_sem,fq,fr,Re,R2,PR,PS,PQ,lmH,lmO,chL,ML.ch,DQ,DR,E9,CR,EW,nmX,xt,Dl,ML.ren,rnC,EN,F7,vrQ,DA,fcN,↓A1,bU,bV,Un.c,zUc,Gj,eV,KK,KJ,QR,M_Un,u9,cq,pqR]
 refine⟨h1,⟨mW g l,h2⟩,?_⟩
 refine A0 [] ?_;simp only[↓eB,seval,go_sem,bne,Qw,sPg,pqR]
end Go.Proofs.Ytjnnmindcbgjhaa
namespace Go.Proofs.Ytjnnmindcbgjhaa
open Go Go.Sy Go.RowKit
def n4:List (List Int):=[[],[],[],[]]
def wgl (g:Int):List UInt8→List Gi:=fun _=>glLs g
theorem A63 (g:Int):utF g n4=[⟨nmS 0,txT 0 []⟩,⟨nmS 1,txT 1 []⟩,⟨gloB,glS g⟩,⟨nmS 2,txT 2 []⟩,⟨nmS 3,txT 3 []⟩]:=by kernel_rfl
theorem A0i (g:Int):∀u∈utF g n4,okUn 50 8 (wgl g) u:=by
 rw[A63]
 intro u hu
 simp only[List.mem_cons,List.not_mem_nil,or_false]at hu
 have hg:RP (giV (glLs g)).ns∧(giV (glLs g)).c.length≤5000∧(giV (glLs g)).a.length≤5000:=by
  unfold glLs
  split
  ·exact⟨Of (by decide),by decide,by decide⟩
  split
  ·exact⟨Of (by decide),by decide,by decide⟩
  split
  ·exact⟨Of (by decide),by decide,by decide⟩
  split
  ·exact⟨Of (by decide),by decide,by decide⟩
  ·exact⟨Of (by decide),by decide,by decide⟩
 rcases hu with rfl|rfl|rfl|rfl|rfl
 ·exact Qg (by decide) (by have e:(txT 0 []).length≤1000:=Nat.le_of_ble_eq_true (by kernel_rfl);unfold Ce;omega) (by kernel_rfl)
 ·exact Qg (by decide) (by have e:(txT 1 []).length≤1000:=Nat.le_of_ble_eq_true (by kernel_rfl);unfold Ce;omega) (by kernel_rfl)
 ·exact sn (zU g) hg.1 hg.2.1 hg.2.2
 ·exact Qg (by decide) (by have e:(txT 2 []).length≤1000:=Nat.le_of_ble_eq_true (by kernel_rfl);unfold Ce;omega) (by kernel_rfl)
 ·exact Qg (by decide) (by have e:(txT 3 []).length≤1000:=Nat.le_of_ble_eq_true (by kernel_rfl);unfold Ce;omega) (by kernel_rfl)
def n4F:List Fn:=(prF 8 (fun _=>[]) (utF 0 n4)).fs
theorem A64 (g:Int):sPg 8 (wgl g) g n4=⟨giV (glLs g),n4F⟩:=by kernel_rfl
theorem A0j:(fnd (nmS 0) n4F).map (·.ps)=some [⟨[120],false⟩]:=by kernel_rfl
theorem A0k:(fnd (nmS 1) n4F).map (·.ps)=some [⟨[120],false⟩,⟨[121],false⟩]:=by kernel_rfl
theorem A0l:(fnd (nmS 2) n4F).map (·.ps)=some [⟨[112],true⟩]:=by kernel_rfl
theorem A0m:(fnd (nmS 3) n4F).map (·.ps)=some [⟨[120],false⟩,⟨[112],true⟩]:=by kernel_rfl
theorem A65:n4F.length=4:=by kernel_rfl
theorem A0n:∀f∈n4F,f.ps.length≤5000:=by
 have h:n4F.all (fun f=>decide (f.ps.length≤5000))=true:=by kernel_rfl
 intro f hf
 exact of_decide_eq_true (List.all_eq_true.1 h f hf)
theorem jr {P:Pg} {f:List UInt8} {l:List Int} {v:Vr} (h:(fnd f P.fs).map (·.ps)=some [v]):Le P f l=HW [Ns P l v]:=by
 obtain⟨x,hx,hp⟩:=Option.map_eq_some_iff.1 h
 unfold Le canF
 rw[hx,if_pos (show (some x).isSome=true from rfl)];dsimp only;rw[hp];rfl
theorem js {P:Pg} {f:List UInt8} {l:List Int} {v v':Vr} (h:(fnd f P.fs).map (·.ps)=some [v,v']):Le P f l=HW [Ns P l v,Ns P l v']:=by
 obtain⟨x,hx,hp⟩:=Option.map_eq_some_iff.1 h
 unfold Le canF
 rw[hx,if_pos (show (some x).isSome=true from rfl)];dsimp only;rw[hp];rfl
theorem jt {a:List Va} (h:1≤a.length) (h2:a.length≤1000000):HW [a]=mn (a.length:Int) 2000:=by
 unfold HW
 simp only[QT]
 split
 ·rename_i hc
  have:(2000:Int)≤(a.length:Int):=of_decide_eq_true hc
  unfold mn;split<;>omega
 ·rename_i hc
  rw[Int.one_mul,wrap_i64 (by omega) (by omega)]
theorem ju {a b:List Va} (h:1≤a.length) (h2:a.length≤1000000) (k:1≤b.length) (k2:b.length≤1000000):HW [a,b]=mn ((a.length:Int)*(b.length:Int)) 2000:=by
 have p1:(a.length:Int)≤(a.length:Int)*(b.length:Int):=by
  have:=Int.mul_le_mul_of_nonneg_left (show (1:Int)≤(b.length:Int) by omega) (show (0:Int)≤(a.length:Int) by omega)
  omega
 have p2:(b.length:Int)≤(a.length:Int)*(b.length:Int):=by
  have:=Int.mul_le_mul_of_nonneg_right (show (1:Int)≤(a.length:Int) by omega) (show (0:Int)≤(b.length:Int) by omega)
  omega
 unfold HW
 simp only[QT]
 split
 ·rename_i hc
  have:(2000:Int)≤(a.length:Int):=of_decide_eq_true hc
  unfold mn;split<;>omega
 ·rename_i hc
  have hc:¬(2000:Int)≤(a.length:Int):=fun hh=>hc (decide_eq_true hh)
  have e1:mn (IntKind.i64.wrap (1*(a.length:Int))) 2000=(a.length:Int):=by
   rw[Int.one_mul,wrap_i64 (by omega) (by omega)];unfold mn;split<;>omega
  rw[e1]
  split
  ·rename_i hd
   have:(2000:Int)≤(b.length:Int):=of_decide_eq_true hd
   unfold mn;split<;>omega
  ·rename_i hd
   have hd:¬(2000:Int)≤(b.length:Int):=fun hh=>hd (decide_eq_true hh)
   have q:(a.length:Int)*(b.length:Int)≤2000*2000:=Int.mul_le_mul (by omega) (by omega) (by omega) (by omega)
   rw[wrap_i64 (by omega) (by omega)]
theorem fv (P:Pg):(My P).length=P.g.c.length+1:=by unfold My;rw[length_cons,List.length_map]
theorem mY (N:Nat):((HA (List.replicate N 0)).length:Int)=mx (N:Int) 1:=by
 unfold HA mx
 cases N with
 |zero=>rfl
 |succ N=>rw[if_neg (by simp;omega)];rw[List.length_map,List.length_replicate];split<;>omega
theorem mZ (N:Nat):D4 (List.replicate N [C.v (.int .i64 0)])=some ((List.replicate N (0:Int)).map iD):=by
 rw[← dP];exact FJ cI (fun _=>rfl) _
theorem A0o (g:Int):(giV (glLs g)).c.length≤1000:=by
 unfold glLs
 split
 ·decide
 split
 ·decide
 split
 ·decide
 split<;>decide
abbrev Ta (g:Int) (k:Int) (n:Int):Prop:=u8R g∧u8R k∧fC n
abbrev F1 (g:Int) (k:Int) (n:Int):Value:=Value.bool true
attribute [local go_sem] bV bU yt Pn TH O2 O1 pgR Es pqR ct QW EY UF Iu Fx JI
theorem Uh:M6 Try.prog 9 (ahS ((cInt .u8).H) (ahS ((cInt .u8).H) (ahS ((cInt .u16).H) ah0))) (fun p:(Int×(Int×(Int×Unit)))=>Ta p.1 p.2.1 p.2.2.1) (fun p:(Int×(Int×(Int×Unit)))=>ofV (F1 p.1 p.2.1 p.2.2.1)):=by
 rintro ⟨g,k,n,_u⟩ w fz xs hc hfz hl hx
 refine Iz Try.func9 rfl w fz [UF,(ct 50 8 (wgl g) (A0h 50 8 (wgl g))),EY,QW] [(3,[.flag 15]),(5,[.fz 20]),(6,[.flag 37])] (ahS ((cInt .u8).H) (ahS ((cInt .u8).H) (ahS ((cInt .u16).H) ah0))) (fun p:(Int×(Int×(Int×Unit)))=>ofV (F1 p.1 p.2.1 p.2.2.1)) _ xs hfz hl hx (jN rfl) ?_
 clear hx hl hfz xs
 simp only[Try.f9]
 obtain⟨⟨g0,g1⟩,⟨k0,k1⟩,⟨n0,n1⟩⟩:=hc
 dsimp only at g0 g1 k0 k1 n0 n1
 have hP:=A64 g
 have hU:Wz 50 8 (wgl g) g n4:=⟨⟨g0,jN rfl,by
  intro b hb
  have:b=[]:=by
   simp only[n4,List.mem_cons,List.not_mem_nil,or_false,or_self]at hb
   exact hb
  subst this
  exact⟨Nat.zero_le _,fun x hx=>by cases hx⟩⟩,A0i g⟩
 have hr0:0≤n.tmod 2100:=Int.tmod_nonneg 2100 n0
 have hr1:n.tmod 2100<2100:=Int.tmod_lt_of_pos n (by decide)
 obtain⟨N,hN⟩:∃N:Nat,n.tmod 2100=(N:Int):=⟨(n.tmod 2100).toNat,by omega⟩
 rw[hN]at hr0 hr1
 have wk:IntKind.i64.wrap k=k:=wrap_i64 (by omega) (by omega)
 have w0:IntKind.i64.wrap (N:Int)=(N:Int):=wrap_i64 (by omega) (by omega)
 have htn:((N:Int)).toNat=N:=Int.toNat_natCast _
 have hdss:=mZ N
 simp only[n4]at hP hU
 obtain⟨M,hM⟩:∃M,mx (N:Int) 1=M:=⟨_,rfl⟩
 have m1:1≤M∧M≤2100:=by rw[← hM];unfold mx;split<;>omega
 obtain⟨m1,m2⟩:=m1
 obtain⟨P,hPe⟩:∃P:Pg,(⟨giV (glLs g),n4F⟩:Pg)=P:=⟨_,rfl⟩
 obtain⟨C,hC⟩:∃C:Nat,P.g.c.length=C:=⟨_,rfl⟩
 have hC2:C≤1000:=by rw[← hC,← hPe];exact A0o g
 have hPf:P.fs=n4F:=by rw[← hPe]
 rw[hPe]at hP
 have l1:∀s,(Ns P (List.replicate N 0) ⟨s,false⟩).length=M.toNat:=by
  intro s
  have h:=mY N
  rw[hM]at h
  show (HA _).length=_
  omega
 have l2:∀s,(Ns P (List.replicate N 0) ⟨s,true⟩).length=C+1:=by
  intro s
  show (My P).length=_
  rw[fv,hC]
 have hMM:((M.toNat:Nat):Int)=M:=Int.toNat_of_nonneg (by omega)
 have w1:IntKind.i64.wrap ((C:Int)+1)=(C:Int)+1:=wrap_i64 (by omega) (by omega)
 have q2:0≤M*M∧M*M≤2100*2100:=⟨Int.mul_nonneg (by omega) (by omega),Int.mul_le_mul (by omega) (by omega) (by omega) (by omega)⟩
 have w2:IntKind.i64.wrap (M*M)=M*M:=wrap_i64 (by omega) (by omega)
 have q3:0≤M*((C:Int)+1)∧M*((C:Int)+1)≤2100*1001:=⟨Int.mul_nonneg (by omega) (by omega),Int.mul_le_mul (by omega) (by omega) (by omega) (by omega)⟩
 have w3:IntKind.i64.wrap (M*((C:Int)+1))=M*((C:Int)+1):=wrap_i64 (by omega) (by omega)
 have hcc:QV P (nmS k) (List.replicate N 0):=⟨by rw[hC];omega,by rw[List.length_replicate];omega,by rw[hPf,A65];decide,by rw[hPf];exact A0n⟩
 have hk1:=aA k0
 obtain⟨j,hj⟩:∃j,k.tmod 4=j:=⟨_,rfl⟩
 have hj1:j=0∨j=1∨j=2∨j=3:=by have:=hj▸hk1;omega
 have hnm:∀i:Int,i.tmod 4=j→nmS k=nmS i:=fun i hi=>by unfold nmS;rw[hj,hi]
 rcases hj1 with h|h|h|h
 ·have hcnt:Le P (nmS k) (List.replicate N 0)=mn M 2000:=by
   rw[hnm 0 (by rw[h];rfl)]
   exact(jr (by rw[hPf];exact A0j)).trans ((jt (by rw[l1];omega) (by rw[l1];omega)).trans (by rw[l1,hMM]))
  rw[h]at hj
  simp only[↓eB,seval,go_sem,iD,hP,hN,w0,wk,htn,hdss,List.length_replicate,hM,hC,hj,w1,w2,w3,hcnt]
  refine⟨hU,⟨(by omega),(by omega)⟩,CT (by kernel_rfl),k0,hcc,CT (by kernel_rfl),?_⟩
  refine A0 [] ?_;simp only[↓eB,seval,go_sem,bne,F1,beq_self_eq_true]
 ·have hcnt:Le P (nmS k) (List.replicate N 0)=mn (M*M) 2000:=by
   rw[hnm 1 (by rw[h];rfl)]
   exact(js (by rw[hPf];exact A0k)).trans ((ju (by rw[l1];omega) (by rw[l1];omega) (by rw[l1];omega) (by rw[l1];omega)).trans (by rw[l1,l1,hMM]))
  rw[h]at hj
  simp only[↓eB,seval,go_sem,iD,hP,hN,w0,wk,htn,hdss,List.length_replicate,hM,hC,hj,w1,w2,w3,hcnt]
  refine⟨hU,⟨(by omega),(by omega)⟩,CT (by kernel_rfl),k0,hcc,CT (by kernel_rfl),?_⟩
  refine A0 [] ?_;simp only[↓eB,seval,go_sem,bne,F1,beq_self_eq_true]
 ·have hcnt:Le P (nmS k) (List.replicate N 0)=mn ((C:Int)+1) 2000:=by
   rw[hnm 2 (by rw[h];rfl)]
   exact(jr (by rw[hPf];exact A0l)).trans ((jt (by rw[l2];omega) (by rw[l2];omega)).trans (by rw[l2];rfl))
  rw[h]at hj
  simp only[↓eB,seval,go_sem,iD,hP,hN,w0,wk,htn,hdss,List.length_replicate,hM,hC,hj,w1,w2,w3,hcnt]
  refine⟨hU,⟨(by omega),(by omega)⟩,CT (by kernel_rfl),k0,hcc,CT (by kernel_rfl),?_⟩
  refine A0 [] ?_;simp only[↓eB,seval,go_sem,bne,F1,beq_self_eq_true]
 ·have hcnt:Le P (nmS k) (List.replicate N 0)=mn (M*((C:Int)+1)) 2000:=by
   rw[hnm 3 (by rw[h];rfl)]
   exact(js (by rw[hPf];exact A0m)).trans ((ju (by rw[l1];omega) (by rw[l1];omega) (by rw[l2];omega) (by rw[l2];omega)).trans (by rw[l1,l2,hMM];rfl))
  rw[h]at hj
  simp only[↓eB,seval,go_sem,iD,hP,hN,w0,wk,htn,hdss,List.length_replicate,hM,hC,hj,w1,w2,w3,hcnt]
  refine⟨hU,⟨(by omega),(by omega)⟩,CT (by kernel_rfl),k0,hcc,CT (by kernel_rfl),?_⟩
  refine A0 [] ?_;simp only[↓eB,seval,go_sem,bne,F1,beq_self_eq_true]
end Go.Proofs.Ytjnnmindcbgjhaa
namespace Go.Proofs.Ytjnnmindcbgjhaa
open Go Go.Sy Go.RowKit Go.ChangeShapes Go.WideShapes Go.ChangeAt
theorem mc {n:Int} (h:(Lit.int .u16 n).wf=true):fC n:=by
 have:=bounds_u16 h;unfold fC;omega
end Go.Proofs.Ytjnnmindcbgjhaa
