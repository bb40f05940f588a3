/- The maker's text. No conditions but those in each statement. -/
import Derived.Test.YtapedeoheilnnaaGreatMk4
import Derived.Test.YtapedeoheilnnaaGreatWl
import Derived.Test.YtapedeoheilnnaaGreatRst
set_option linter.all false
set_option maxRecDepth 20000
set_option maxHeartbeats 16000000
open List (length_append map_append)
namespace Go.Proofs.YtapedeoheilnnaaGreat
open Go Go.Sy Go.RowKit
theorem AI{P:Prop}(h:P:=by
 refine AC (Y:=Nat×List UInt8×Mk) (λy=>y.1<=6/\okM y.2.2 (bc (stC 2) y.1+2)/\y.2.1.length+bn (stL 2) y.1<=6*stL 2+60/\Ht (stT 2 s) y.1 y.2.1 y.2.2=txB s b)
  (λy=>⟨[(0,true,.one (.v (.int .i64 s))),(5,true,.one (.p 10 0 0)),(6,true,.one (.v (.string (bs y.2.1)))),(7,true,.one (.v (.int .i64 (y.1:Int))))],[(10,.vec 0 zMk [y.2.2.c])]⟩)
  (λy=>y.1) (c,txH s,nxM (m0 b)) ⟨hc6,okM.mono o1 (by have:=bc6 (c:=stC 2) (by omega) c hc6;dsimp only;omega),by have:=bn6 (c:=stL 2) c hc6;simp only;omega,hx.symm⟩ ?_ ?_
 .refine A2 [] ?_;simp only[seval,go_sem,hh]
 rintro ⟨j,acc,q⟩ ⟨h1,h2,h3,h4⟩
 refine AP [CV,EG,Hs,Em 4 (TA 4)] [] _ _ _ ?_
 dsimp only at h1 h2 h3 h4
 cases j with
 |zero=>
  simp only[Ht]at h4
  have e0:decide ((0:Int)<((0:Nat):Int))=false:=rfl
  have q2:okM q 2:=okM.mono h2 (by simp only[bc];omega)
  have a3:=CL (okM.mono q2 (by decide))
  have q3:okM (nxM q) 1:=a3.ok q2
  have l3:=Dx (nxM q)
  simp only[bn]at h3
  cases e3:(nxV 2 q==0) with
  |true=>
   have hr:txT s b=(((acc++[114,101,116,117,114,110,32])++(BB (nxM q)).1)++[59,32])++[125]:=by unfold txT;rw[<- h4];simp only[e3,if_true]
   simp only[seval,go_sem,CV,EG,Hs,Em,HD,HC,HE,Fm,FB,Fy,G0,G1,G2,G3,G4,G5,G6,G7,tn0,tn1,tn2,MB,LC,e0,e3]
   try exact A2N
  |false=>
  have hr:txT s b=acc++[125]:=by unfold txT;rw[<- h4];simp[e3]
  simp only[seval,go_sem,CV,EG,Hs,Em,HD,HC,HE,Fm,FB,Fy,G0,G1,G2,G3,G4,G5,G6,G7,tn0,tn1,tn2,MB,LC,e0,e3]
  try exact A2N
 |succ j=>
 simp only[Ht,bc,bn]at h2 h3 h4
 have e0:decide ((0:Int)<((j+1:Nat):Int))=true:=decide_eq_true (by omega)
 have e1:IntKind.i64.wrap (((j+1:Nat):Int)-1)=(j:Int):=by rw[wrap_i64 (by omega) (by omega)];omega
 have hb0:=VT (c:=stC 2) (by omega) j
 have oq:okM q (stC 2):=okM.mono h2 (by omega)
 have a2:=VV 2 (s:=s) oq
 have l2:=Pz 2 s q
 simp only[seval,go_sem,CV,EG,Hs,Em,HD,HC,HE,Fm,FB,Fy,G0,G1,G2,G3,G4,G5,G6,G7,tn0,tn1,tn2,MB,LC,e0,e1]
 repeat refine AX ?_
 refine⟨(j,acc++(stT 2 s q).1,(stT 2 s q).2),⟨by omega,a2.ok (okM.mono h2 (by dsimp only;omega)),by simp only[length_append];omega,h4⟩,Nat.lt_succ_self _,A2 [] ?_⟩
 simp only[seval,go_sem]):P:=h
theorem fR{P:Prop}(h:P:=by
 refine⟨hi2,hc1,⟨hi2,Int.le_refl _⟩,⟨(λq h=>by cases h;rfl),hs1,(by omega),(by omega)⟩,⟨Nat.succ_pos _,(λq h=>by cases h;rfl),hs2,(by omega),(by omega)⟩,Bn (by kernel_rfl),?_⟩
 refine A1 [.mv 41 0] ?_;simp only[seval,go_sem,bne,R1,M_Un,A3,xt,↓A0,h5,map_append,List.flatMap_append]):P:=h
theorem s5{P:Prop}(h:P:=by
 refine⟨hc1,⟨(λq h=>by cases h;rfl),hrs,(by decide),(by omega),(by omega)⟩,?_⟩
 refine A1 [.mv 47 0] ?_;simp only[seval,go_sem,bne,R1,M_Un,A3,xt,↓A0,h5,map_append,List.flatMap_append]):P:=h
theorem A2N{P:Prop}(h:P:=by (repeat' first|exact ck|with_reducible apply And.intro|intro _);all_goals first|exact okM.mono q2 (by decide)|exact q3|(simp only[length_append,List.length_cons,List.length_nil]at *;omega)|exact KZ|(refine A1 [] ?_;simp only[seval,go_sem,bne,Jq,hr,HD,HC,HE,Fm,FB,Fy,G0,G1,G2,G3,G4,G5,G6,G7,tn0,tn1,tn2,MB,LC])):P:=h
theorem yQ{c:C}{z z':List D}{es es':List (List D)}(h:leC c (.d (.sl z es)))(h':leC c (.d (.sl z' es'))):es=es':=by
 exact iK
noncomputable def cBy:Cod (List Int):=Hl (λl=>.one (.d (.sl zBy (l.map byD)))) (λv a b h h'=>by
 cases v with
 |one c=>exact Aj ik (yQ h h')
 |agg l=>exact h.elim
 |tup l=>exact h.elim) (λl=>rfl)
theorem MB(l:List Int):cBy.e l= .one (.d (.sl zBy (l.map byD))):=rfl
theorem LC(l:List Int):cBy.d (.one (.d (.sl [.v (.int .u8 0)] (l.map byD))))=some l:=E4 (e:=λl:List Int=>.one (.d (.sl zBy (l.map byD)))) (F4 _)
def txH(s:Int):List UInt8:=if (s.tmod 4==2)=true then hdS s++[32,123,32,118,97,114,32,97,59,32,118,97,114,32,98,59,32,118,97,114,32,120,59,32,112,116,114,32,113,59,32] else hdS s++[32,123,32,118,97,114,32,97,59,32,118,97,114,32,98,59,32,112,116,114,32,113,59,32]
def m0(b:List Int):Mk:=⟨b,0,25⟩
def txB(s:Int)(b:List Int):T:=Ht (stT 2 s) (1+nxV 6 (m0 b)).toNat (txH s) (nxM (m0 b))
def txT(s:Int)(b:List Int):List UInt8:=
 (if (nxV 2 (txB s b).2==0)=true then (((txB s b).1++[114,101,116,117,114,110,32])++(BB (nxM (txB s b).2)).1)++[59,32] else (txB s b).1)++[125]
theorem dG(s:Int):(txH s).length<=60:=by
 have h1:=dC (s.tmod 4).toNat
 unfold txH hdS
 split<;>simp only[length_append,List.length_cons,List.length_nil]<;>omega
def okY(b:List Int):Prop:=b.length<=4294967295/\∀x∈b,0<=x/\x<256
theorem bc6{c:Int}(h:0<=c):∀k,k<=6->bc c k<=6*c
 |0,_=>by simp only[bc];omega
 |1,_=>by simp only[bc];omega
 |2,_=>by simp only[bc];omega
 |3,_=>by simp only[bc];omega
 |4,_=>by simp only[bc];omega
 |5,_=>by simp only[bc];omega
 |6,_=>by simp only[bc];omega
theorem bn6{c:Nat}:∀k,k<=6->bn c k<=6*c
 |0,_=>by simp only[bn];omega
 |1,_=>by simp only[bn];omega
 |2,_=>by simp only[bn];omega
 |3,_=>by simp only[bn];omega
 |4,_=>by simp only[bn];omega
 |5,_=>by simp only[bn];omega
 |6,_=>by simp only[bn];omega
abbrev tO(s:Int)(b:List Int):Prop:=0<=s/\okY b
abbrev Jq(s:Int)(b:List Int):SV:=.one (.v (.string (bs (txT s b))))
noncomputable abbrev Wp:ArgC ((Int)×(List Int)×Unit):=(acS (cInt .i64) (acS (cBy) ac0))
abbrev tP:Prop:=Ca Tryz.prog 44 Wp (λp:(Int)×(List Int)×Unit=>tO p.1 p.2.1) (λp:(Int)×(List Int)×Unit=>Jq p.1 p.2.1)
section
attribute [local go_sem] Mk.c zBy
theorem yR:tP:=by
 rintro ⟨s,b,_u⟩ w fz xs hc hfz hl hx
 refine Bg Tryz.func44 rfl w fz [CV,EG,Hs,(Em 4 (TA 4))] [] Wp (λp:(Int)×(List Int)×Unit=>Jq p.1 p.2.1) _ xs hfz hl hx (jN rfl) ?_
 clear hx hl hfz xs
 simp only[Tryz.f44]
 obtain⟨g0,g1,g2⟩:=hc
 dsimp only at g0 g1 g2
 have o0:okM (m0 b) 100000:=⟨Int.le_refl _,by show (0:Int)+100000<=4294967296;decide,g2⟩
 have a1:=CL (okM.mono o0 (by decide))
 have o1:okM (nxM (m0 b)) 99999:=a1.ok (okM.mono o0 (by decide))
 have hv:=E7 (j:=6) o0 (by decide)
 obtain⟨c,hc⟩:∃c:Nat,1+nxV 6 (m0 b)=(c:Int):=⟨(1+nxV 6 (m0 b)).toNat,by omega⟩
 have hc6:c<=6:=by omega
 have hcw:IntKind.i64.wrap (1+nxV 6 (m0 b))=(c:Int):=by rw[hc];exact wrap_i64 (by omega) (by omega)
 have hx:txB s b=Ht (stT 2 s) c (txH s) (nxM (m0 b)):=by unfold txB;rw[hc];rfl
 have hH:=dG s
 have hHd:=dC (s.tmod 4).toNat
 have hS:stC 2=2594:=by decide
 have hL:=VU 2 (by decide)
 have em:(⟨b,0,25⟩:Mk)=m0 b:=rfl
 cases e2:(s.tmod 4==2) with
 |true=>
  have hh:txH s=hdS s++[32,123,32,118,97,114,32,97,59,32,118,97,114,32,98,59,32,118,97,114,32,120,59,32,112,116,114,32,113,59,32]:=by unfold txH;rw[if_pos e2]
  simp only[seval,go_sem,CV,EG,Hs,Em,HD,HC,HE,Fm,FB,Fy,G0,G1,G2,G3,G4,G5,G6,G7,tn0,tn1,tn2,MB,LC,em,hcw,e2]
  refine⟨g0,by unfold hdS;omega,g0,by unfold hdS;omega,⟨okM.mono o0 (by decide),by decide⟩,?_⟩
  exact AI
 |false=>
 have hh:txH s=hdS s++[32,123,32,118,97,114,32,97,59,32,118,97,114,32,98,59,32,112,116,114,32,113,59,32]:=by unfold txH;rw[if_neg (by rw[e2];decide)]
 simp only[seval,go_sem,CV,EG,Hs,Em,HD,HC,HE,Fm,FB,Fy,G0,G1,G2,G3,G4,G5,G6,G7,tn0,tn1,tn2,MB,LC,em,hcw,e2]
 refine⟨g0,by unfold hdS;omega,⟨okM.mono o0 (by decide),by decide⟩,?_⟩
 exact AI
noncomputable def Kp{X:Ctx}{w0:World}:Sy.Spec Tryz.prog X w0:=Dq 44 Tryz.call44 Wp _ _ KF6 yR
end
open Go Go.Sy Go.RowKit
def Hu(l:List Int):List D:=[.sl zBy (l.map byD)]
def JB:List D:=[.v (.slice none 0 0)]
theorem tQ(a b:Int)(h:byD a=byD b):a=b:=by
 simp only[byD,List.cons.injEq,D.v.injEq,Value.int.injEq,true_and,and_true]at h
 exact h
theorem nB(a b:List Int)(h:Hu a=Hu b):a=b:=by
 simp only[Hu,List.cons.injEq,D.sl.injEq,true_and,and_true]at h
 exact Aj tQ h
noncomputable def fN:Cod (List (List Int)):=Hl (λl=>.one (.d (.sl JB (l.map Hu)))) (λv a b h h'=>by
 cases v with
 |one c=>exact Aj nB (GH h h')
 |agg l=>exact h.elim
 |tup l=>exact h.elim) (λl=>rfl)
theorem tR{h:Bf}{fz:Nat->Prop}{x:Value}(r:Rd h fz (.sl [.v (.slice none 0 0)] [[.v (.slice none 0 0)],[.v (.slice none 0 0)],[.v (.slice none 0 0)],[.v (.slice none 0 0)]]) x):Rd h fz (.sl JB (List.map Hu [[],[],[],[]])) x:=by
 cases r with
 |sl z es b off cap arr T m val hz hb hcap hl hc hr=>
 have key:∀(i:Nat) (cs:List D),(List.map Hu [[],[],[],[]])[i]?=some cs->cs=[.sl zBy []]/\([[D.v (.slice none 0 0)],[.v (.slice none 0 0)],[.v (.slice none 0 0)],[.v (.slice none 0 0)]])[i]?=some [D.v (.slice none 0 0)]:=by
  intro i cs h
  match i,h with
  |0,h=>exact⟨(Option.some.inj h).symm,rfl⟩
  |1,h=>exact⟨(Option.some.inj h).symm,rfl⟩
  |2,h=>exact⟨(Option.some.inj h).symm,rfl⟩
  |3,h=>exact⟨(Option.some.inj h).symm,rfl⟩
 refine .sl JB _ b off cap arr T m val hz hb hcap ?_ ?_ ?_
 .intro i cs h
  rw[(key i cs h).1];rfl
 .intro i j cs d h hd
  obtain⟨rfl,k2⟩:=key i cs h
  match j,hd with
  |0,hd=>exact hc i 0 _ _ k2 rfl
 intro i j cs d h hd
 obtain⟨rfl,k2⟩:=key i cs h
 match j,hd with
 |0,hd=>
  have r2:=hr i 0 _ _ k2 rfl
  rw[<- Option.some.inj hd]
  cases hv:val i 0<;>rw[hv]at r2<;>cases r2
  exact .nil _ none 0 λ_=>rfl
abbrev yS:SV:=.one (.d (.sl [.v (.slice none 0 0)] [[.v (.slice none 0 0)],[.v (.slice none 0 0)],[.v (.slice none 0 0)],[.v (.slice none 0 0)]]))
open Classical in
noncomputable def cBl:Cod (List (List Int)) where
 d v:=if v=yS then some [[],[],[],[]] else fN.d v
 e:=fN.e
 h v a x hd r:=by
  split at hd
  .rename_i hv
   subst hv
   cases Option.some.inj hd
   have r2:=r.2
   cases r2
   rename_i h2
   exact⟨rfl,.d _ _ _ (tR h2)⟩
  .exact fN.h v a x hd r
 n:=fN.n
theorem ZD(l:List (List Int)):cBl.e l= .one (.d (.sl JB (l.map Hu))):=rfl
theorem ZE(l:List (List Int)):cBl.d (.one (.d (.sl JB (l.map Hu))))=some l:=by
 refine(if_neg ?_).trans (E4 (e:=λl:List (List Int)=>.one (.d (.sl JB (l.map Hu)))) (F4 _))
 intro h
 cases l with
 |nil=>cases h
 |cons b l=>
 simp only[List.map_cons,Hu,SV.one.injEq,C.d.injEq,D.sl.injEq,List.cons.injEq]at h
 cases h.2.1.1
theorem yT:cBl.d yS=some [[],[],[],[]]:=if_pos rfl
theorem A38(l:List Int):cBy.d (.one (.d (.sl zBy (l.map byD))))=some l:=LC l
theorem iu(k t:Nat)(l:List Un):(l.map Un.c).map (λr=>r.map (mvC k t))=l.map Un.c:=HU Un.c (λ_=>rfl) l
def Un.r(u:Un):List D:=[.v (.string (bs u.s)),.v (.string (bs u.t))]
theorem yU(l:List Un):EZ (l.map Un.c)=some (l.map Un.r):=Hi Un.c (λ_=>rfl) l
theorem yV(l:List Un):(l.map Un.r).map (λr=>r.map oD)=l.map Un.c:=by
 rw[List.map_map];exact List.map_congr_left λu _=>rfl
theorem A39(i:Nat)(l:List Un):(l.map Un.r).take i=(l.take i).map Un.r:=List.map_take.symm
theorem A3A(i:Nat)(l:List Un):(l.map Un.r).drop i=(l.drop i).map Un.r:=List.map_drop.symm
theorem fO(l:List Un):BS (l.map Un.c):=by
 intro r h c hc
 obtain⟨u,_,rfl⟩:=List.mem_map.1 h
 simp only[Un.c,List.mem_cons,List.not_mem_nil,or_false]at hc
 rcases hc with rfl|rfl<;>rfl
def utI(l:List (List Int))(i:Nat):List Un:=(List.range i).map λ(j:Nat)=>⟨nmS (j:Int),txT (j:Int) (l.getD j [])⟩
theorem A3B(l:List (List Int)):utI l 0=[]:=rfl
theorem Wq(l:List (List Int))(i:Nat):(utI l i).length=i:=by simp[utI]
theorem A3C(l:List (List Int))(i:Nat):utI l (i+1)=utI l i++[⟨nmS (i:Int),txT (i:Int) (l.getD i [])⟩]:=by
 unfold utI;rw[List.range_succ,map_append];rfl
def utN(l:List (List Int)):Nat:=if l.length<4 then l.length else 4
def utF(g:Int)(l:List (List Int)):List Un:=
 if 1<utN l then (utI l (utN l)).take 2++⟨gloB,glS g⟩::(utI l (utN l)).drop 2 else utI l (utN l)++[⟨gloB,glS g⟩]
theorem iv{l:List (List Int)}{i:Nat}(h:i<l.length)(z:List D):(l.map Hu).getD i z=[.sl zBy ((l.getD i []).map byD)]:=by
 simp[List.getD,h,Hu]
theorem A3D:∀b,∀v∈ArgC.e (acS (cInt .u8) (acS cBl ac0)) b,v.tupB=false:=by
 rintro ⟨g,l,_⟩ v hv
 simp only[FV,FU,List.mem_cons,List.not_mem_nil,or_false]at hv
 rcases hv with rfl|rfl<;>rfl
noncomputable abbrev VW:ArgL (Int×List (List Int)×Unit):=Uj (acS (cInt .u8) (acS cBl ac0)) A3D
abbrev ZF(p:Int×List (List Int)×Unit):Prop:=0<=p.1/\p.2.1.length<=1000000/\∀b∈p.2.1,okY b
abbrev R1(_:Int×List (List Int)×Unit):SV:=.one (.s 0)
abbrev M_Un(p:Int×List (List Int)×Unit):List (Option ML):=[some (.vec zUc ((utF p.1 p.2.1).map Un.c))]
attribute [local go_sem] ML.ch ML.ren Un.c LL OI LM Di ZE ZD LC MB A38 chL MU fcN lmH lmO DH Cj Ck nmX E5 EE rnC Ci DS Cu A3A yU iu Hw A39 yV CU E8 vrQ zUc
theorem tS:Dj Tryz.prog 26 VW.args VW.mem ZF (λ_=>false) R1 M_Un (λ_=>mlO []):=by
 rintro ⟨g,l,_u⟩ w M I lab fz xs ⟨hc1,hc2,hc3⟩ hA hl hx
 dsimp only at hc1 hc2 hc3
 refine Bz Tryz.func26 rfl [] w M I lab fz false [] (M_Un (g,l,())) [Fo,Kp,Gj] [(7,[.fz 1000])] (VW.args (g,l,())) (R1 (g,l,())) xs hA hl hx ?_ (jN rfl) (Nat.zero_le _) rfl (by intro q hq;cases hq) ?_
 .intro v hv k hk
  rw[(acS (cInt .u8) (acS cBl ac0)).n _ v hv]at hk;cases hk
 clear hx hl hA xs
 simp only[Tryz.f26]
 simp only[seval,go_sem,Fo,It,Kp,Jq,Gj,EK,xt,↓A0]
 have huF:utF g l=if 1<utN l then (utI l (utN l)).take 2++⟨gloB,glS g⟩::(utI l (utN l)).drop 2 else utI l (utN l)++[⟨gloB,glS g⟩]:=rfl
 obtain⟨N,hN⟩:∃N,utN l=N:=⟨_,rfl⟩
 rw[hN]at huF
 have n1:N<=l.length/\N<=4/\(N<l.length->N=4):=by rw[<- hN];unfold utN;split<;>omega
 obtain⟨n1,n2,n3⟩:=n1
 refine AC (Y:=Nat) (λi=>i<=N)
  (λi=>⟨[(0,true,.one (.v (.int .u8 g))),(1,true,.one (.d (.sl JB (l.map Hu)))),(5,true,.one (.s 1000)),(6,true,.one (.v (.int .i64 (i:Int))))],
   [(1000,.vec 0 zUc ((utI l i).map Un.c))]⟩)
  (λi=>N-i) 0 (Nat.zero_le _) ?_ ?_
 .refine A2 [.nil 5 1000 zUc] ?_;simp only[seval,go_sem,xt,↓A0,A3B]
 rintro i hi
 refine AP [Fo,Kp,Gj] [(7,[.fz 1000])] _ _ _ ?_
 by_cases hlt:i<N
 .have hll:i<l.length/\i<4:=by omega
  have h1:decide ((i:Int)<(l.length:Int))=true:=decide_eq_true (by omega)
  have h2:decide ((i:Int)<4)=true:=decide_eq_true (by omega)
  have w1:IntKind.i64.wrap ((i:Int)+1)=((i+1:Nat):Int):=by rw[wrap_i64 (by omega) (by omega)];rfl
  have hz:=iv hll.1
  have hil:(i:Int)<(l.length:Int):=by omega
  have hln:=Wq l i
  have hy:okY (l.getD i []):=by
   refine hc3 _ ?_
   simp only[List.getD,List.getElem?_eq_getElem hll.1,Option.getD_some]
   exact List.getElem_mem _
  have ht:(utI l (i+1)).map Un.c=(utI l i).map Un.c++[[.v (.string (bs (nmS (i:Int)))),.v (.string (bs (txT (i:Int) (l.getD i []))))]]:=by
   rw[A3C,map_append];rfl
  have hrs:BS [[C.v (.string (bs (nmS (i:Int)))),C.v (.string (bs (txT (i:Int) (l.getD i []))))]]:=by
   exact gD
  simp only[seval,go_sem,Fo,It,Kp,Jq,Gj,EK,xt,↓A0,h1,h2,w1,hz]
  refine⟨⟨hil,rfl⟩,⟨Int.natCast_nonneg _,hy⟩,⟨(λq h=>by cases h;rfl),hrs,(by decide),(by omega),(by omega)⟩,Bn (by kernel_rfl),i+1,hlt,(by omega),BU (t:=⟨[(0,true,.one (.v (.int .u8 g))),(1,true,.one (.d (.sl JB (l.map Hu)))),(5,true,.one (.s 28)),(6,true,.one (.v (.int .i64 ((i+1:Nat):Int))))],
  [(28,.vec 0 zUc ((utI l (i+1)).map Un.c))]⟩) ?_ ?_⟩
  .refine A2 [] ?_;simp only[seval,go_sem,xt,↓A0,ht,map_append,List.flatMap_append]
  refine A2 [.mv 28 1000] ?_;simp only[seval,go_sem,xt,↓A0]
 have hiT:i=N:=by omega
 subst hiT
 have hln:=Wq l i
 obtain⟨U,hU⟩:∃U,utI l i=U:=⟨_,rfl⟩
 rw[hU]at huF hln
 have h1:decide ((i:Int)<(l.length:Int))=false∨decide ((i:Int)<(l.length:Int))=true/\decide ((i:Int)<4)=false:=by
  by_cases h:i<l.length
  .exact .inr ⟨decide_eq_true (by omega),decide_eq_false (by have:=n3 h;omega)⟩
  exact .inl (decide_eq_false (by omega))
 simp only[hU]
 cases h3:decide (1<(i:Int)) with
 |true=>
  have h3':=of_decide_eq_true h3
  have h4:utF g l=U.take 2++⟨gloB,glS g⟩::U.drop 2:=by rw[huF,if_pos (by omega)]
  have h5:(utF g l).map Un.c=(U.take 2).map Un.c++[.v (.string (bs [103,108,111,98,97,108,115])),.v (.string (bs (glS g)))]::(U.drop 2).map Un.c:=by rw[h4,map_append,List.map_cons];rfl
  have hd:List.take (i-2) (List.drop 2 U)=U.drop 2:=List.take_of_length_le (by rw[List.length_drop];omega)
  have hdl:(List.drop 2 U).length=i-2:=by rw[List.length_drop];omega
  have htl:(List.take 2 U).length=2:=by rw[List.length_take];omega
  have hs1:=fO (U.drop 2)
  have hs2:=fO (⟨gloB,glS g⟩::U.drop 2)
  have hi2:(2:Int)<=(i:Int):=by omega
  rcases h1 with h1|⟨h1,h2⟩
  .simp only[seval,go_sem,Fo,It,Kp,Jq,Gj,EK,xt,↓A0,h1,h3,hln,hd]
   exact fR
  simp only[seval,go_sem,Fo,It,Kp,Jq,Gj,EK,xt,↓A0,h1,h2,h3,hln,hd]
  exact fR
 |false=>
 have h3':=of_decide_eq_false h3
 have h4:utF g l=U++[⟨gloB,glS g⟩]:=by rw[huF,if_neg (by omega)]
 have hrs:BS [[C.v (.string (bs [103,108,111,98,97,108,115])),C.v (.string (bs (glS g)))]]:=fO [⟨gloB,glS g⟩]
 have h5:(utF g l).map Un.c=U.map Un.c++[[.v (.string (bs [103,108,111,98,97,108,115])),.v (.string (bs (glS g)))]]:=by rw[h4,map_append];rfl
 rcases h1 with h1|⟨h1,h2⟩
 .simp only[seval,go_sem,Fo,It,Kp,Jq,Gj,EK,xt,↓A0,h1,h3,hln]
  exact s5
 simp only[seval,go_sem,Fo,It,Kp,Jq,Gj,EK,xt,↓A0,h1,h2,h3,hln]
 exact s5
end Go.Proofs.YtapedeoheilnnaaGreat
