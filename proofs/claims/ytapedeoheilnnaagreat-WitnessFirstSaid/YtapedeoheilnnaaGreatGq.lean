/- The document's reading of globals, for the machine's programs; that are written one after the other. No conditions but those in each statement. -/
import Derived.Test.YtapedeoheilnnaaGreatRs3
import Derived.Test.YtapedeoheilnnaaGreatPa9
import Derived.Test.YtapedeoheilnnaaGreatRm2
import Derived.Test.YtapedeoheilnnaaGreatSy36
set_option linter.all false
set_option maxRecDepth 20000
set_option maxHeartbeats 16000000
open Nat (zero_le)
open List (length_cons length_nil map_append mem_singleton mem_cons not_mem_nil flatMap_append mem_map)
namespace Go.Proofs.YtapedeoheilnnaaGreat
open Go Go.Sy Go.RowKit
theorem AAR{P:Prop}(h:P:=by refine A2 [] ?_;simp only[seval,go_sem,CT.fn,CT.mv,zSr]):P:=h
theorem AAi{P:Prop}(h:P:=by
 repeat refine AX ?_
 refine⟨(i+1,P),⟨hlt,hP2.symm⟩,by dsimp only;omega,A2 [] ?_⟩
 simp only[seval,go_sem,fl3,Hw,Fn.c,zFc]):P:=h
def Gl.cc(g:Gl):List C:=[.d (.sl Fq (g.c.map cSd)),.d (.sl GP (g.a.map Gy.r))]
def sR1(s:List UInt8):List C:=[.v (.string (bs s))]
theorem CT:RowsD sR1 cSd 1:=by
 refine⟨λa c hc=>?_,λa c hc=>?_,λa=>rfl,λa=>rfl⟩
 .simp only[sR1,mem_singleton]at hc;subst hc;rfl
 simp only[sR1,mem_singleton]at hc;subst hc;rfl
inductive Gi where
 |c (x:List UInt8)
 |a (x t:List UInt8)
def aB:List UInt8:=[99,101,108,108]
def nO:List UInt8:=[97,114,114,97,121]
def Gi.tk:Gi->List Kt
 | .c x=>[(0,aB),(0,x),(2,[59])]
 | .a x t=>[(0,nO),(0,x),(2,[91]),(1,t),(2,[93]),(2,[59])]
def Gi.ok:Gi->Prop
 | .c x=>KN x=false
 | .a x t=>KN x=false/\E1 t/\0<numW t 0/\numW t 0<=1048576
def giK:List Gi->List Kt
 |[]=>[]
 |g::l=>g.tk++giK l
def giA(cs:List (List UInt8))(as':List Gy):List Gi->Gl
 |[]=>⟨cs,as'⟩
 | .c x::l=>giA (cs++[x]) as' l
 | .a x t::l=>giA cs (as'++[⟨x,numW t 0⟩]) l
def giV(l:List Gi):Gl:=giA [] [] l
def Gy.cc(a:Gy):List C:=[.v (.string (bs a.s)),.v (.int .i64 a.n)]
def zSr:List C:=[.v (.string (bs []))]
def zGc:List C:=[.v (.string (bs [])),.v (.int .i64 0)]
theorem MT:RowsD Gy.cc Gy.r 2:=by
 refine⟨λa c hc=>?_,λa c hc=>?_,λa=>rfl,λa=>rfl⟩
 .simp only[Gy.cc,mem_cons,not_mem_nil,or_false]at hc;rcases hc with rfl|rfl<;>rfl
 simp only[Gy.cc,mem_cons,not_mem_nil,or_false]at hc;rcases hc with rfl|rfl<;>rfl
abbrev z2:List C:=[.v (.bool false),.v (.bool false)]
theorem Sfx.takY{p:Pr}{k:Int}{t:List UInt8}{ts:List Kt}(h:Sfx p ((k,t)::ts))(hk:(k != 1)=true):Go.Proofs.YtapedeoheilnnaaGreat.isT t p=true/\Bt t p=Go.Proofs.YtapedeoheilnnaaGreat.adv p:=by
 have e:Go.Proofs.YtapedeoheilnnaaGreat.isT t p=true:=by rw[h.isT,hk];simp
 exact⟨e,ii e⟩
theorem Sfx.takN{p:Pr}{k:Int}{t u:List UInt8}{ts:List Kt}(h:Sfx p ((k,t)::ts))(hu:(t==u)=false):Go.Proofs.YtapedeoheilnnaaGreat.isT u p=false/\Bt u p=p:=by
 have e:Go.Proofs.YtapedeoheilnnaaGreat.isT u p=false:=by rw[h.isT,hu];simp
 exact⟨e,ij e⟩
theorem Sfx.namSt{p:Pr}{t:List UInt8}{ts:List Kt}(h:Sfx p ((0,t)::ts))(hw:KN t=false):Go.Proofs.YtapedeoheilnnaaGreat.nameB p=true/\E3 p=t:=by
 have e:Go.Proofs.YtapedeoheilnnaaGreat.nameB p=true:=by rw[h.nameB,hw];rfl
 exact⟨e,by unfold E3;rw[if_pos e];exact h.hd.2⟩
abbrev gSt(q:Pr)(cs:List (List UInt8))(as':List Gy):St:=⟨[(2,true,.one (.p 2 0 0)),(8,true,.one (.p 28 0 0)),(9,true,.one (.p 9 0 0))],[(2,.vec 0 z2 [[cNr,cNr]]),(28,.vec 0 zPr [q.c]),(9,.vec 0 z2 [[.s 1000,.s 1001]]),(1000,.vec 0 zSr (cs.map sR1)),(1001,.vec 0 zGc (as'.map Gy.cc))]⟩
abbrev cX(L:List Gi)(s:List UInt8):Prop:=E1 s/\(∀g∈L,g.ok)/\L.length<=19/\∃T,rxT s=(T,0,0)/\T.map kt=giK L
abbrev PR(L:List Gi)(s:List UInt8):SV:=.tup [.inr (giV L).cc,.inl (.v (.int .i64 0)),.inl (.v (.int .i64 0))]
noncomputable abbrev PS:ArgC ((List UInt8)×Unit):=(acS (cStr) ac0)
abbrev UN(L:List Gi):Prop:=Ca Tryz.prog 40 PS (λp:(List UInt8)×Unit=>cX L p.1) (λp:(List UInt8)×Unit=>PR L p.1)
noncomputable def FK{X:Ctx}{w0:World}(L:List Gi)(h:UN L):Sy.Spec Tryz.prog X w0:=Dq 40 Tryz.call40 PS _ _ KF3 h
section
attribute [local go_sem] Pr.c zTk
theorem fe(L:List Gi):UN L:=by
 rintro ⟨s,_u⟩ w fz xs hc hfz hl hx
 refine Bg Tryz.func40 rfl w fz [ypTok,A6,AG,A7,AB,AJ,JF] [] PS (λp:(List UInt8)×Unit=>PR L p.1) _ xs hfz hl hx (jN rfl) ?_
 clear hx hl hfz xs
 simp only[Tryz.f40]
 obtain⟨hs,hL,hn,T,hT,hK⟩:=hc
 have hok:=fX s (s.length:Int)
 rw[hT]at hok
 simp only[seval,go_sem,ypTok,Av,Au,Aw,Al,Tok.r,Ao,ptR,As,AR,AQ,AS,hT]
 try simp only[AD,AE]
 repeat' (first|exact ck|with_reducible apply And.intro)
 all_goals try first|exact hs|decide|omega
 generalize (s.length:Int)=N at hok ⊢
 have hS:Sfx (p0 T N) (giK L):=⟨hok,rfl,hK⟩
 refine AC (Y:=Pr×List (List UInt8)×List Gy×List Gi) (λy=>Sfx y.1 (giK y.2.2.2)/\giA y.2.1 y.2.2.1 y.2.2.2=giV L/\(∀g∈y.2.2.2,g.ok)/\y.2.1.length+y.2.2.1.length+y.2.2.2.length<=19)
  (λy=>gSt y.1 y.2.1 y.2.2.1) (λy=>y.2.2.2.length) (p0 T N,[],[],L) ⟨hS,rfl,hL,by simpa using hn⟩ ?_ ?_
 .refine A2 [.nilr 9 0 0 1000 zSr,.nilr 9 0 1 1001 zGc] ?_;simp only[seval,go_sem,zSr,zGc,p0]
 rintro ⟨q,cs,as',M⟩ ⟨g1,g2,g3,g4⟩
 refine AP [A6,AG,A7,AB,AJ,JF] [] _ _ _ ?_
 dsimp only at g1 g2 g3 g4
 have hlen:IntKind.i64.wrap ((cs.length:Int)+(as'.length:Int))=((cs.length+as'.length:Nat):Int):=by rw[wrap_i64 (by omega) (by omega)];rfl
 have hlen2:decide ((20:Int)<=((cs.length+as'.length:Nat):Int))=false:=by simp;omega
 have hE:(q.e==0)=true:=by rw[g1.e];rfl
 have hE2:(q.e != 0)=false:=by rw[g1.e];rfl
 cases M with
 |nil=>
  have g1:Sfx q []:=g1
  have h1:(q.e==0&&decide (q.i<(q.l.length:Int)))=false:=by rw[hE,g1.nil];simp
  have hr:giV L=⟨cs,as'⟩:=g2.symm
  simp only[seval,go_sem,A7,AO,AB,AG,AJ,A6,JF,I8,Av,Au,Aw,Al,Tok.r,Ao,ptR,As,AR,AQ,AS,h1,hE2]
  repeat refine AX ?_
  refine A1 [.fz 1000,.fz 1001] ?_;simp only[seval,go_sem,bne,PR,hr,Gl.cc,CT.ds,CT.fz,MT.ds,MT.fz,zSr,zGc,GP,Fq]
 |cons m M=>
 cases m with
 |c x=>
  have hw:KN x=false:=g3 _ (List.mem_cons_self ..)
  have g1:Sfx q ((0,aB)::(0,x)::(2,[59])::giK M):=g1
  have hlt:=g1.lt
  have h1:(q.e==0&&decide (q.i<(q.l.length:Int)))=true:=by rw[hE];simp[hlt]
  obtain⟨i1,e1⟩:=g1.takY (by decide)
  have a1:=g1.adv
  obtain⟨i2,e2⟩:=a1.namSt hw
  have e3:=a1.nam hw
  have a2:=a1.adv
  have e4:=a2.wan (by decide)
  have a3:=a2.adv
  have hok1:=g1.ok
  have hok2:=a1.ok
  have hok3:=a2.ok
  simp only[aB]at i1 e1
  simp only[seval,go_sem,A7,AO,AB,AG,AJ,A6,JF,I8,Av,Au,Aw,Al,Tok.r,Ao,ptR,As,AR,AQ,AS,h1,i1,e1,i2,e2,e3,e4,hlen,hlen2]
  have hst:BS [[C.v (Value.string (bs x))]]:=by
   intro r hr c hc
   rw[mem_singleton.1 hr]at hc
   rw[mem_singleton.1 hc];rfl
  have:=hok2.i;repeat refine AX ?_
  refine⟨(adv (adv (adv q)),cs++[x],as',M),⟨a3,g2,λg hg=>g3 g (List.mem_cons_of_mem _ hg),by simp only[List.length_append,length_cons,length_nil]at g4 ⊢;omega⟩,Nat.lt_succ_self _,BU (t:=⟨[(2,true,.one (.p 2 0 0)),(8,true,.one (.p 28 0 0)),(9,true,.one (.p 9 0 0))],[(2,.vec 0 z2 [[cNr,cNr]]),(28,.vec 0 zPr [(adv (adv (adv q))).c]),(9,.vec 0 z2 [[.s 73,.s 1001]]),(73,.vec 0 zSr ((cs++[x]).map sR1)),(1001,.vec 0 zGc (as'.map Gy.cc))]⟩) ?_ ?_⟩
  .refine A2 [] ?_;simp only[seval,go_sem,zSr,zGc,sR1,CT.fn,MT.fn,map_append,flatMap_append]
  refine A2 [.mv 73 1000] ?_;simp only[seval,go_sem,zSr,zGc,CT.mv,CT.fn,MT.mv,MT.fn]
 |a x t=>
 obtain⟨hw,ht,hn0,hn1⟩:KN x=false/\E1 t/\0<numW t 0/\numW t 0<=1048576:=g3 _ (List.mem_cons_self ..)
 have g1:Sfx q ((0,nO)::(0,x)::(2,[91])::(1,t)::(2,[93])::(2,[59])::giK M):=g1
 have hlt:=g1.lt
 have h1:(q.e==0&&decide (q.i<(q.l.length:Int)))=true:=by rw[hE];simp[hlt]
 obtain⟨i1,e1⟩:=g1.takN (u:=aB) (by decide)
 have e1':=g1.wan (by decide)
 have a1:=g1.adv
 obtain⟨i2,e2⟩:=a1.namSt hw
 have e3:=a1.nam hw
 have a2:=a1.adv
 have e4:=a2.wan (by decide)
 have a3:=a2.adv
 have hok1:=g1.ok
 have hok2:=a1.ok
 have hok3:=a2.ok
 obtain⟨q3,hq3⟩:∃q3,adv (adv (adv q))=q3:=⟨_,rfl⟩
 rw[hq3]at e4 a3
 have h3:(q3.e==0&&decide (q3.i<(q3.l.length:Int)))=true:=by rw[a3.e];simp[a3.lt]
 have h3a:=a3.ok.i.1
 have h3b:=a3.lt
 have k3:(q3.l.getD q3.i.toNat tk0).k=1:=a3.hd.1
 have t3:(q3.l.getD q3.i.toNat tk0).t=t:=a3.hd.2
 have a4:=a3.adv
 have e5:Bd [93] ⟨q3.l,IntKind.i64.wrap (q3.i+1),q3.en,q3.e,q3.at',q3.deep,q3.n⟩=adv (adv q3):=a4.wan (by decide)
 have a5:=a4.adv
 have e6:=a5.wan (by decide)
 have a6:=a5.adv
 have hok4:=a3.ok
 have hok5:okP ⟨q3.l,IntKind.i64.wrap (q3.i+1),q3.en,q3.e,q3.at',q3.deep,q3.n⟩:=a4.ok
 have hok6:=a5.ok
 obtain⟨q5,hq5⟩:∃q5,adv (adv q3)=q5:=⟨_,rfl⟩
 rw[hq5]at e5 e6 hok6 a6
 have n1:decide ((1048576:Int)<numW t 0)=false:=by simp;omega
 have n2:(numW t 0==0)=false:=by simp;omega
 simp only[aB]at i1 e1
 simp only[nO]at e1'
 have hst:BS [[C.v (Value.string (bs x)),C.v (Value.int .i64 (numW t 0))]]:=by
  intro r hr c hc
  rw[mem_singleton.1 hr]at hc
  simp only[mem_cons,not_mem_nil,or_false]at hc
  rcases hc with rfl|rfl<;>rfl
 simp only[seval,go_sem,A7,AO,AB,AG,AJ,A6,JF,I8,Av,Au,Aw,Al,Tok.r,Ao,ptR,As,AR,AQ,AS,h1,i1,e1,e1',i2,e2,e3,e4,e5,e6,h3,k3,t3,n1,n2,hlen,hlen2]
 have:=hok2.i;repeat refine AX ?_
 refine⟨(adv q5,cs,as'++[⟨x,numW t 0⟩],M),⟨a6,g2,λg hg=>g3 g (List.mem_cons_of_mem _ hg),by simp only[List.length_append,length_cons,length_nil]at g4 ⊢;omega⟩,Nat.lt_succ_self _,BU (t:=⟨[(2,true,.one (.p 2 0 0)),(8,true,.one (.p 28 0 0)),(9,true,.one (.p 9 0 0))],[(2,.vec 0 z2 [[cNr,cNr]]),(28,.vec 0 zPr [(adv q5).c]),(9,.vec 0 z2 [[.s 1000,.s 145]]),(1000,.vec 0 zSr (cs.map sR1)),(145,.vec 0 zGc ((as'++[(⟨x,numW t 0⟩:Gy)]).map Gy.cc))]⟩) ?_ ?_⟩
 .refine A2 [] ?_;simp only[seval,go_sem,zSr,zGc,Gy.cc,CT.fn,MT.fn,map_append,flatMap_append]
 refine A2 [.mv 145 1001] ?_;simp only[seval,go_sem,zSr,zGc,CT.mv,CT.fn,MT.mv,MT.fn]
end
open Go Go.Sy Go.RowKit
theorem A44(v:SV)(a b:Gl)(h:leV v (.agg a.cc))(h':leV v (.agg b.cc)):a=b:=by
 cases v with
 |one c=>exact h.elim
 |tup l=>exact h.elim
 |agg l=>
 obtain⟨cs,as'⟩:=a
 obtain⟨cs2,as2⟩:=b
 match l,h,h' with
 |[c0,c1],⟨h0,h1,_⟩,⟨g0,g1,_⟩=>
  have k1:=Aj QE (GH h0 g0)
  have k2:=Aj QF (GH h1 g1)
  simp only at k1 k2
  subst k1;subst k2;rfl
noncomputable def cGl:Cod Gl:=Hl (λg=>.agg g.cc) A44 (λg=>rfl)
theorem MC(g:Gl):cGl.e g= .agg g.cc:=rfl
theorem MD(cs:List (List UInt8))(as':List Gy):cGl.d (.agg [.d (.sl Fq (cs.map cSd)),.d (.sl GP (as'.map Gy.r))])=some ⟨cs,as'⟩:=E4 (e:=λg:Gl=>.agg g.cc) (a:=⟨cs,as'⟩) (F4 _)
def Gl.ns(g:Gl):List (List UInt8):=g.c++g.a.map Gy.s
def TT(l:List (List UInt8)):Prop:=∀i j,j<i->i<l.length->(l.getD j []==l.getD i [])=false
theorem zE(l:List (List UInt8)):(l.map cSd).map (λr=>r.map oD)=l.map sR1:=by simp[cSd,oD,sR1]
theorem jX(l:List (List UInt8)):BS (l.map sR1):=by
 intro r h c hc
 obtain⟨x,_,rfl⟩:=mem_map.1 h
 rw[mem_singleton.1 hc];rfl
theorem qu{l:List (List UInt8)}{i:Nat}(h:i<l.length)(z:List C):(l.map sR1).getD i z=[.v (.string (bs (l.getD i [])))]:=by simp[List.getD,h,sR1]
abbrev nP(g:Gl):Prop:=g.c.length<=5000/\g.a.length<=5000/\TT g.ns
abbrev Ud(g:Gl):SV:=.one (.v (.int .i64 0))
noncomputable abbrev Ue:ArgC ((Gl)×Unit):=(acS (cGl) ac0)
abbrev nQ:Prop:=Ca Tryz.prog 41 Ue (λp:(Gl)×Unit=>nP p.1) (λp:(Gl)×Unit=>Ud p.1)
section
attribute [local go_sem] Gl.cc MD MC sR1
theorem u6:nQ:=by
 rintro ⟨g,_u⟩ w fz xs hc hfz hl hx
 refine Bg Tryz.func41 rfl w fz [] [] Ue (λp:(Gl)×Unit=>Ud p.1) _ xs hfz hl hx (jN rfl) ?_
 clear hx hl hfz xs
 simp only[Tryz.f41]
 obtain⟨pc,pa⟩:=g
 obtain⟨h1,h2,h3⟩:=hc
 dsimp only at h1 h2
 have hst:=jX pc
 have hcs:=zE pc
 simp only[seval,go_sem,CT.fn,CT.mv]
 refine⟨⟨λq h=>by cases h;rfl,by rw[hcs];exact hst,by omega,by omega⟩,?_⟩
 refine AC (Y:=Nat) (λi=>i<=pa.length)
  (λi=>⟨[(1,true,.one (.p 1 0 0)),(2,true,.one (.v (.int .i64 0))),(3,true,.one (.s 1000)),(4,true,.one (.v (.int .i64 (i:Int))))],
   [(1,.vec 0 [.v (.bool false),.v (.bool false)] [[.d (.sl Fq (pc.map cSd)),.d (.sl GP (pa.map Gy.r))]]),(1000,.vec 0 zSr ((pc++(pa.take i).map Gy.s).map sR1))]⟩)
  (λi=>pa.length-i) 0 (zero_le _) ?_ ?_
 .refine A2 [.mv 9 1000] ?_;simp only[seval,go_sem,CT.fn,CT.mv,hcs,zSr]
 rintro i hi
 refine AP [] [] _ _ _ ?_
 have w1:IntKind.i64.wrap ((i:Int)+1)=((i+1:Nat):Int):=by rw[wrap_i64 (by omega) (by omega)];rfl
 cases hx:pa[i]? with
 |none=>
  have g2:=List.getElem?_eq_none_iff.1 hx
  have g1:=Ai g2
  simp only[seval,go_sem,CT.fn,CT.mv,g1]
  rw[List.take_of_length_le g2]
  obtain⟨L,hL⟩:∃L,pc++pa.map Gy.s=L:=⟨_,rfl⟩
  have hln:L.length<=10000:=by rw[<- hL];simp;omega
  have h3':TT L:=by rw[<- hL];exact h3
  rw[hL]
  refine AC (Y:=Nat) (λi=>i<=L.length)
   (λi=>⟨[(2,true,.one (.v (.int .i64 0))),(3,true,.one (.s 1000)),(5,true,.one (.v (.int .i64 (i:Int))))],[(1000,.vec 0 zSr (L.map sR1))]⟩)
   (λi=>L.length-i) 0 (zero_le _) ?_ ?_
  .exact AAR
  rintro j hj
  refine AP [] [] _ _ _ ?_
  have w2:IntKind.i64.wrap ((j:Int)+1)=((j+1:Nat):Int):=by rw[wrap_i64 (by omega) (by omega)];rfl
  by_cases hjl:j<L.length
  .have k1:=Ah hjl
   have hjt:=qu hjl
   simp only[seval,go_sem,CT.fn,CT.mv,k1]
   refine AC (Y:=Nat) (λk=>k<=j)
    (λk=>⟨[(2,true,.one (.v (.int .i64 0))),(3,true,.one (.s 1000)),(5,true,.one (.v (.int .i64 (j:Int)))),(6,true,.one (.v (.int .i64 (k:Int))))],[(1000,.vec 0 zSr (L.map sR1))]⟩)
    (λk=>j-k) 0 (zero_le _) ?_ ?_
   .exact AAR
   rintro k hk
   refine AP [] [] _ _ _ ?_
   have w3:IntKind.i64.wrap ((k:Int)+1)=((k+1:Nat):Int):=by rw[wrap_i64 (by omega) (by omega)];rfl
   by_cases hkj:k<j
   .have q1:=Ah hkj
    have hkt:=qu (show k<L.length by omega)
    have hne:=h3' j k hkj hjl
    simp only[seval,go_sem,CT.fn,CT.mv,q1,hjt,hkt,hne,w3,zSr]
    refine⟨(by omega),(by omega),(by omega),hjl,Bn (by kernel_rfl),k+1,hkj,(by omega),?_⟩
    exact AAR
   have q1:=Ai (Nat.le_of_not_lt hkj)
   simp only[seval,go_sem,CT.fn,CT.mv,q1,w2]
   refine⟨j+1,hjl,(by omega),?_⟩
   exact AAR
  have k1:=Ai (Nat.le_of_not_lt hjl)
  simp only[seval,go_sem,CT.fn,CT.mv,k1]
  repeat refine AX ?_
  refine A1 [] ?_;simp only[seval,go_sem,bne,Ud,CT.fn,CT.mv]
 |some y=>
 have hlt:=(List.getElem?_eq_some_iff.1 hx).1
 have g1:=Ah hlt
 obtain⟨ys,yn⟩:=y
 have hs:∀z,(pa.map Gy.r).getD i z=[.v (.string (bs ys)),.v (.int .i64 yn)]:=by intro z;simp[List.getD,hx,Gy.r]
 simp only[seval,go_sem,CT.fn,CT.mv,g1,w1,hs]
 have hil:(i:Int)<(pa.length:Int):=by omega
 have hln:(pc++List.map Gy.s (List.take i pa)).length=pc.length+i:=by simp;omega
 have ht:(pc++(pa.take (i+1)).map Gy.s).map sR1=(pc++(pa.take i).map Gy.s).map sR1++[[.v (.string (bs ys))]]:=by
  rw[List.take_add_one,hx];simp[sR1]
 have hrs:BS [[C.v (Value.string (bs ys))]]:=jX [ys]
 refine⟨⟨hil,rfl⟩,⟨⟨rfl,.inl rfl⟩,(λq h=>by cases h;rfl),hrs,(by decide),(by rw[hln];omega),(by rw[hln];omega)⟩,i+1,hlt,(by omega),BU (t:=⟨[(1,true,.one (.p 1 0 0)),(2,true,.one (.v (.int .i64 0))),(3,true,.one (.s 25)),(4,true,.one (.v (.int .i64 ((i+1:Nat):Int))))],
  [(1,.vec 0 [.v (.bool false),.v (.bool false)] [[.d (.sl Fq (pc.map cSd)),.d (.sl GP (pa.map Gy.r))]]),(25,.vec 0 zSr ((pc++(pa.take (i+1)).map Gy.s).map sR1))]⟩) ?_ ?_⟩
 .refine A2 [] ?_;simp only[seval,go_sem,CT.fn,CT.mv,zSr,ht,map_append,flatMap_append]
 refine A2 [.mv 25 1000] ?_;simp only[seval,go_sem,CT.fn,CT.mv,zSr]
noncomputable def Ha{X:Ctx}{w0:World}:Sy.Spec Tryz.prog X w0:=Dq 41 Tryz.call41 Ue _ _ KF3 u6
end
open Go Go.Sy Go.RowKit
def XB:List UInt8:=[99,101,108,108,32,99,59,32,99,101,108,108,32,100,59,32,97,114,114,97,121,32,116,91,52,93,59,32,97,114,114,97,121,32,117,91,49,93,59]
def nR:List Gi:=[.c [99],.c [100],.a [116] [52],.a [117] [49]]
theorem A7c:rxT XB=([⟨0,[99,101,108,108],0⟩,⟨0,[99],5⟩,⟨2,[59],6⟩,⟨0,[99,101,108,108],8⟩,⟨0,[100],13⟩,⟨2,[59],14⟩,⟨0,[97,114,114,97,121],16⟩,⟨0,[116],22⟩,⟨2,[91],23⟩,⟨1,[52],24⟩,⟨2,[93],25⟩,⟨2,[59],26⟩,⟨0,[97,114,114,97,121],28⟩,⟨0,[117],34⟩,⟨2,[91],35⟩,⟨1,[49],36⟩,⟨2,[93],37⟩,⟨2,[59],38⟩],0,0):=by kernel_rfl
def XC:List UInt8:=[99,101,108,108,32,99,59,32,97,114,114,97,121,32,116,91,50,93,59]
def nS:List Gi:=[.c [99],.a [116] [50]]
theorem A7d:rxT XC=([⟨0,[99,101,108,108],0⟩,⟨0,[99],5⟩,⟨2,[59],6⟩,⟨0,[97,114,114,97,121],8⟩,⟨0,[116],14⟩,⟨2,[91],15⟩,⟨1,[50],16⟩,⟨2,[93],17⟩,⟨2,[59],18⟩],0,0):=by kernel_rfl
def XD:List UInt8:=[]
def nT:List Gi:=[]
theorem A7e:rxT XD=([],0,0):=by kernel_rfl
def XE:List UInt8:=[99,101,108,108,32,99,59,32,99,101,108,108,32,100,59,32,99,101,108,108,32,101,59,32,97,114,114,97,121,32,116,91,57,93,59]
def nV:List Gi:=[.c [99],.c [100],.c [101],.a [116] [57]]
theorem A7f:rxT XE=([⟨0,[99,101,108,108],0⟩,⟨0,[99],5⟩,⟨2,[59],6⟩,⟨0,[99,101,108,108],8⟩,⟨0,[100],13⟩,⟨2,[59],14⟩,⟨0,[99,101,108,108],16⟩,⟨0,[101],21⟩,⟨2,[59],22⟩,⟨0,[97,114,114,97,121],24⟩,⟨0,[116],30⟩,⟨2,[91],31⟩,⟨1,[57],32⟩,⟨2,[93],33⟩,⟨2,[59],34⟩],0,0):=by kernel_rfl
def XF:List UInt8:=[99,101,108,108,32,100,59,32,97,114,114,97,121,32,117,91,51,93,59]
def nW:List Gi:=[.c [100],.a [117] [51]]
theorem A7g:rxT XF=([⟨0,[99,101,108,108],0⟩,⟨0,[100],5⟩,⟨2,[59],6⟩,⟨0,[97,114,114,97,121],8⟩,⟨0,[117],14⟩,⟨2,[91],15⟩,⟨1,[51],16⟩,⟨2,[93],17⟩,⟨2,[59],18⟩],0,0):=by kernel_rfl
theorem N1:∀x∈([[99],[100],[101],[116],[117]]:List (List UInt8)),KN x=false:=by decide
structure glO(s:List UInt8)(L:List Gi):Prop where
 sm:E1 s
 o:∀g∈L,g.ok
 n:L.length<=19
 t:∃T,rxT s=(T,0,0)/\T.map kt=giK L
theorem A45:glO XB nR:=by
 refine⟨by have e:XB.length=39:=rfl;unfold E1;omega,?_,by decide,_,A7c,rfl⟩
 intro g hg
 simp only[nR,mem_cons,not_mem_nil,or_false]at hg
 rcases hg with rfl|rfl|rfl|rfl
 all_goals first|exact N1 _ (by decide)|exact⟨N1 _ (by decide),by unfold E1;simp only[length_cons,length_nil];omega,by decide,by decide⟩
theorem A46:glO XC nS:=by
 refine⟨by have e:XC.length=19:=rfl;unfold E1;omega,?_,by decide,_,A7d,rfl⟩
 intro g hg
 simp only[nS,mem_cons,not_mem_nil,or_false]at hg
 rcases hg with rfl|rfl
 all_goals first|exact N1 _ (by decide)|exact⟨N1 _ (by decide),by unfold E1;simp only[length_cons,length_nil];omega,by decide,by decide⟩
theorem A47:glO XD nT:=by
 refine⟨by have e:XD.length=0:=rfl;unfold E1;omega,?_,by decide,_,A7e,rfl⟩
 intro g hg
 simp only[nT,mem_cons,not_mem_nil,or_false]at hg
theorem A48:glO XE nV:=by
 refine⟨by have e:XE.length=35:=rfl;unfold E1;omega,?_,by decide,_,A7f,rfl⟩
 intro g hg
 simp only[nV,mem_cons,not_mem_nil,or_false]at hg
 rcases hg with rfl|rfl|rfl|rfl
 all_goals first|exact N1 _ (by decide)|exact⟨N1 _ (by decide),by unfold E1;simp only[length_cons,length_nil];omega,by decide,by decide⟩
theorem A49:glO XF nW:=by
 refine⟨by have e:XF.length=19:=rfl;unfold E1;omega,?_,by decide,_,A7g,rfl⟩
 intro g hg
 simp only[nW,mem_cons,not_mem_nil,or_false]at hg
 rcases hg with rfl|rfl
 all_goals first|exact N1 _ (by decide)|exact⟨N1 _ (by decide),by unfold E1;simp only[length_cons,length_nil];omega,by decide,by decide⟩
def glS(g:Int):List UInt8:=if (g.tmod 5==0)=true then XB else if (g.tmod 5==1)=true then XC else if (g.tmod 5==2)=true then XD else if (g.tmod 5==3)=true then XE else XF
def glLs(g:Int):List Gi:=if (g.tmod 5==0)=true then nR else if (g.tmod 5==1)=true then nS else if (g.tmod 5==2)=true then nT else if (g.tmod 5==3)=true then nV else nW
theorem A4A(g:Int):glO (glS g) (glLs g):=by
 unfold glS glLs
 by_cases h0:(g.tmod 5==0)=true
 .rw[if_pos h0,if_pos h0];exact A45
 rw[if_neg h0,if_neg h0]
 by_cases h1:(g.tmod 5==1)=true
 .rw[if_pos h1,if_pos h1];exact A46
 rw[if_neg h1,if_neg h1]
 by_cases h2:(g.tmod 5==2)=true
 .rw[if_pos h2,if_pos h2];exact A47
 rw[if_neg h2,if_neg h2]
 by_cases h3:(g.tmod 5==3)=true
 .rw[if_pos h3,if_pos h3];exact A48
 rw[if_neg h3,if_neg h3];exact A49
def gtB(a b:List UInt8):Bool:=!(Op.bytesLess a b||a==b)
theorem qk(a b:List UInt8):gtB a b = !(Op.bytesLess a b||a==b):=rfl
def fnZ:Fn:=⟨[],[],[],[]⟩
def LH(fs:List Fn)(nm:List UInt8):Nat->Nat
 |0=>0
 |k+1=>if gtB (fs.getD k fnZ).name nm=true then LH fs nm k else k+1
def insF(fs:List Fn)(f:Fn):List Fn:=fs.take (LH fs f.name fs.length)++f::fs.drop (LH fs f.name fs.length)
def upP(m:Nat)(gl:List UInt8->List Gi)(P:Pg)(u:Un):Pg:=
 if (u.s==gloB)=true then ⟨giV (gl u.t),P.fs⟩
 else if ((Fp u.t).2.2 != 0)=true then P
 else if ((IV (Fp u.t).1 u.s m).2.2 != 0)=true then P
 else ⟨P.g,insF P.fs (IV (Fp u.t).1 u.s m).1⟩
def prF(m:Nat)(gl:List UInt8->List Gi)(l:List Un):Pg:=l.foldl (upP m gl) ⟨⟨[],[]⟩,[]⟩
theorem qm{m:Nat}{gl:List UInt8->List Gi}{l:List Un}{i:Nat}{u:Un}(h:l[i]?=some u):prF m gl (l.take (i+1))=upP m gl (prF m gl (l.take i)) u:=by
 unfold prF
 rw[List.take_add_one,h];simp
theorem dQ(fs:List Fn)(nm:List UInt8):∀k,LH fs nm k<=k
 |0=>Nat.le_refl _
 |k+1=>by
  simp only[LH]
  split
  .have:=dQ fs nm k;omega
  omega
theorem nK(fs:List Fn)(f:Fn):(insF fs f).length=fs.length+1:=by
 have:=dQ fs f.name fs.length
 simp[insF];omega
theorem tg(m:Nat)(gl:List UInt8->List Gi)(P:Pg)(u:Un):(upP m gl P u).fs.length<=P.fs.length+1:=by
 unfold upP
 split
 .simp_all
 split
 .omega
 split
 .omega
 exact Nat.le_of_eq (nK _ _)
theorem Wz(m:Nat)(gl:List UInt8->List Gi)(l:List Un):∀i,i<=l.length->(prF m gl (l.take i)).fs.length<=i
 |0,_=>Nat.le_refl _
 |i+1,h=>by
  have hx:l[i]?=some l[i]:=List.getElem?_eq_getElem h
  rw[qm hx]
  have h1:=tg m gl (prF m gl (l.take i)) l[i]
  have h2:=Wz m gl l i (by omega)
  omega
theorem Hw(l:List Un):(l.map Un.c).flatMap (λr=>r.flatMap C.names)=[]:=List.flatMap_eq_nil_iff.2 λp hp=>by
 obtain⟨a,_,rfl⟩:=mem_map.1 hp
 rfl
theorem Zv(k:Nat)(z:List D)(e:List (List D))(l:List Un):(l.map Un.c).map (λr=>r.map (fzC k z e))=l.map Un.c:=HU Un.c (λ_=>rfl) l
theorem jJ(l:List Fn):(l.map Fn.r).map (λr=>r.map oD)=l.map Fn.c:=by
 rw[List.map_map]
 exact List.map_congr_left λf _=>rfl
theorem Vf(l:List Fn):BS (l.map Fn.c):=by
 intro r h c hc
 obtain⟨f,_,rfl⟩:=mem_map.1 h
 simp only[Fn.c,mem_cons,not_mem_nil,or_false]at hc
 rcases hc with rfl|rfl|rfl|rfl<;>rfl
theorem jK(l:List Fn):EZ (l.map Fn.c)=some (l.map Fn.r):=Hi Fn.c (λ_=>rfl) l
theorem dR(l:List Fn):(l.map Fn.c).flatMap (λr=>r.flatMap C.names)=[]:=List.flatMap_eq_nil_iff.2 λp hp=>by
 obtain⟨a,_,rfl⟩:=mem_map.1 hp
 rfl
theorem qn(l:List Fn)(p:Nat):List.take p (l.map Fn.r)=(l.take p).map Fn.r:=(List.map_take ..).symm
theorem qo(l:List Fn)(p:Nat):List.take (l.length-p) (List.drop p (l.map Fn.r))=(l.drop p).map Fn.r:=by
 rw[List.map_drop]
 exact List.take_of_length_le (by simp)
theorem A40(l:List Fn):∃s b c d,(l.map Fn.r).getD 0 [D.v (Value.string (bs [])),D.v (Value.slice none 0 0),D.v (Value.slice none 0 0),D.v (Value.slice none 0 0)]=[.v (.string (bs s)),b,c,d]:=by
 cases l with
 |nil=>exact⟨_,_,_,_,rfl⟩
 |cons f l=>exact⟨_,_,_,_,rfl⟩
theorem jL(l:List Fn)(f:Fn){p:Nat}(h:LH l f.name l.length=p):(l.take p).map Fn.c++f.c::(l.drop p).map Fn.c=(insF l f).map Fn.c:=by
 unfold insF;rw[h];simp
structure okUn(n m:Nat)(gl:List UInt8->List Gi)(u:Un):Prop where
 g:(u.s==gloB)=true->glO u.t (gl u.t)/\TT (giV (gl u.t)).ns/\(giV (gl u.t)).c.length<=5000/\(giV (gl u.t)).a.length<=5000
 s:(u.s==gloB)=false->E1 u.t
 f:(u.s==gloB)=false->okF (Fp u.t).1
 b:(u.s==gloB)=false->okB n m (Fp u.t).1.body
def pqR(P:Pg):List C:=[.d (.sl Fq (P.g.c.map cSd)),.d (.sl GP (P.g.a.map Gy.r)),.d (.sl zFn (P.fs.map Fn.r))]
theorem A41{l:List Un}{i:Nat}{u:Un}(h:l[i]?=some u)(z:List C):(l.map Un.c).getD i z=u.c:=by simp[List.getD,h]
theorem yt{l:List Fn}{k:Nat}(h:k<l.length)(z:List D):(l.map Fn.r).getD k z=(l.getD k fnZ).r:=by simp[List.getD,h]
abbrev tj(n:Nat)(m:Nat)(gl:List UInt8->List Gi)(l:List Un):Prop:=l.length<=10/\∀u∈l,okUn n m gl u
abbrev X0(n:Nat)(m:Nat)(gl:List UInt8->List Gi)(l:List Un):SV:=.agg (pqR (prF m gl l))
abbrev X1(n:Nat)(m:Nat)(gl:List UInt8->List Gi)(l:List Un):List (Option MV):=[some (zUc,l.map Un.c)]
noncomputable abbrev NW:ArgM ((List Un)×Unit):=(amS (mUn) am0)
abbrev dT(n:Nat)(m:Nat)(gl:List UInt8->List Gi):Prop:=C7 Tryz.prog 25 ((NW).args 0) (NW).mem (λp:(List Un)×Unit=>tj n m gl p.1) (λp:(List Un)×Unit=>X0 n m gl p.1) (λp:(List Un)×Unit=>X1 n m gl p.1)
noncomputable def TL{X:Ctx}{w0:World}(n:Nat)(m:Nat)(gl:List UInt8->List Gi)(h:dT n m gl):Sy.Spec Tryz.prog X w0:=D0 25 Tryz.call25 (NW) _ _ _ KF1 KF0 (id (by intro p _;exact yr _)) h
section
attribute [local go_sem] pqR zFn
theorem y_Prog(n:Nat)(m:Nat)(gl:List UInt8->List Gi):dT n m gl:=by
 rintro ⟨l,_u⟩ w M I lab fz xs hc hA hl hx
 refine Ac Tryz.func25 rfl ((NW).mem ⟨l,_u⟩) w M I lab fz [Gp,(Ej n m (P8 n m))] [] ((NW).args 0 ⟨l,_u⟩) ((λp:(List Un)×Unit=>X1 n m gl p.1) ⟨l,_u⟩) ((λp:(List Un)×Unit=>X0 n m gl p.1) ⟨l,_u⟩) xs hA hl hx (λv hv k hk=>by have:=(NW).an 0 ⟨l,_u⟩ v hv k hk;omega) (jN rfl) (jN rfl) ?_
 clear hx hl hA xs
 simp only[Tryz.f25]
 obtain⟨hl,hu⟩:=hc
 have hl:l.length<=10:=hl
 simp only[seval,go_sem,Gp,Ej,FK,Ha,A8,A9,Fn.c,AM,A4,A5,AF,LG,LF,Un.c,MC,MD,Gl.cc]
 refine AC (Y:=Nat×Pg) (λz=>z.1<=l.length/\z.2=prF m gl (l.take z.1))
  (λz=>⟨[(0,true,.one (.s 0)),(2,true,.one (.p 2 0 0)),(3,true,.one (.p 3 0 0)),(4,true,.one (.v (.int .i64 (z.1:Int))))],
   [(0,.vec 0 zUc (l.map Un.c)),(2,.vec 0 fl3 [[.v (.slice none 0 0),.v (.slice none 0 0),.v (.slice none 0 0)]]),(3,.vec 0 fl3 [pqR z.2])]⟩)
  (λz=>l.length-z.1) (0,⟨⟨[],[]⟩,[]⟩) ⟨zero_le _,rfl⟩ ?_ ?_
 .refine A2 [.nilr 3 0 0 1000 zSr,.fz 1000,.nilr 3 0 1 1001 zGc,.fz 1001,.nilr 3 0 2 1002 zFc,.fz 1002] ?_;simp only[seval,go_sem,fl3,zFc,zSr,zGc,Fq,GP,Hw,Zv]
 rintro ⟨i,P⟩ ⟨hi,hP⟩
 dsimp only at hi hP
 have w1:IntKind.i64.wrap ((i:Int)+1)=((i+1:Nat):Int):=by rw[wrap_i64 (by omega) (by omega)];rfl
 have hPl:P.fs.length<=i:=by rw[hP];exact Wz m gl l i hi
 cases hx:l[i]? with
 |none=>
  refine AP [Gp,Ej n m (P8 n m)] [] _ _ _ ?_
  have g2:=List.getElem?_eq_none_iff.1 hx
  have g1:=Ai g2
  rw[List.take_of_length_le g2]at hP
  subst hP
  simp only[seval,go_sem,Gp,Ej,FK,Ha,A8,A9,Fn.c,AM,A4,A5,AF,LG,LF,Un.c,MC,MD,Gl.cc,g1]
  refine⟨(by decide),?_⟩
  refine A1 [] ?_;simp only[seval,go_sem,bne,X0,X1,Hw]
 |some u=>
 have hlt:=(List.getElem?_eq_some_iff.1 hx).1
 have g1:=Ah hlt
 have hut:=A41 hx
 have hP2:=qm (m:=m) (gl:=gl) hx
 rw[<- hP]at hP2
 obtain⟨kg,ks,kf,kb⟩:=hu u (List.mem_of_getElem? hx)
 obtain⟨us,ut⟩:=u
 dsimp only at kg ks kf kb
 refine AP [Gp,Ej n m (P8 n m),FK (gl ut) (fe (gl ut)),Ha] [] _ _ _ ?_
 cases hg:(us==gloB) with
 |true=>
  have hg2:=hg
  simp only[gloB]at hg
  simp only[seval,go_sem,Gp,Ej,FK,Ha,A8,A9,Fn.c,AM,A4,A5,AF,LG,LF,Un.c,MC,MD,Gl.cc,g1,w1,hut,hg]
  obtain⟨ko,kn,kc,ka⟩:=kg hg2
  have hup:upP m gl P ⟨us,ut⟩=⟨giV (gl ut),P.fs⟩:=by unfold upP;exact if_pos hg2
  rw[hup]at hP2
  have hil:(i:Int)<(l.length:Int):=by omega
  refine⟨hil,hlt,hlt,hil,hlt,hlt,⟨ko.sm,ko.o,ko.n,ko.t⟩,⟨kc,ka,kn⟩,(by decide),(i+1,⟨giV (gl ut),P.fs⟩),⟨hlt,hP2.symm⟩,(by dsimp only;omega),A2 [] ?_⟩
  simp only[seval,go_sem,fl3,Hw]
 |false=>
 have hil:(i:Int)<(l.length:Int):=by omega
 obtain⟨⟨F,a1,r1⟩,hF⟩:∃x,Fp ut=x:=⟨_,rfl⟩
 obtain⟨⟨G,a2,r2⟩,hR⟩:∃x,IV F us m=x:=⟨_,rfl⟩
 have hs:=ks hg
 have h1:=kf hg
 have h2:=kb hg
 rw[hF]at h1 h2
 dsimp only at h1 h2
 have hg2:=hg
 simp only[gloB]at hg
 cases e1:(r1==0) with
 |false=>
  have e1':(r1 != 0)=true:=by simp[bne,e1]
  have hup:upP m gl P ⟨us,ut⟩=P:=by unfold upP;rw[if_neg (by rw[hg2];decide),hF];exact if_pos e1'
  rw[hup]at hP2
  simp only[seval,go_sem,Gp,Ej,FK,Ha,A8,A9,Fn.c,AM,A4,A5,AF,LG,LF,Un.c,MC,MD,Gl.cc,g1,w1,hut,hg,hF,e1,e1']
  exact AAi
 |true=>
 have e1':(r1 != 0)=false:=by simp[bne,e1]
 cases e2:(r2==0) with
 |false=>
  have e2':(r2 != 0)=true:=by simp[bne,e2]
  have hup:upP m gl P ⟨us,ut⟩=P:=by
   unfold upP;rw[if_neg (by rw[hg2];decide),hF]
   dsimp only
   rw[if_neg (by rw[e1'];decide),hR];exact if_pos e2'
  rw[hup]at hP2
  simp only[seval,go_sem,Gp,Ej,FK,Ha,A8,A9,Fn.c,AM,A4,A5,AF,LG,LF,Un.c,MC,MD,Gl.cc,g1,w1,hut,hg,hF,hR,e1,e1',e2,e2']
  exact AAi
 |true=>
 have e2':(r2 != 0)=false:=by simp[bne,e2]
 have hup:upP m gl P ⟨us,ut⟩=⟨P.g,insF P.fs G⟩:=by
  unfold upP;rw[if_neg (by rw[hg2];decide),hF]
  dsimp only
  rw[if_neg (by rw[e1'];decide),hR];exact if_neg (by rw[e2'];decide)
 rw[hup]at hP2
 simp only[seval,go_sem,Gp,Ej,FK,Ha,A8,A9,Fn.c,AM,A4,A5,AF,LG,LF,Un.c,MC,MD,Gl.cc,g1,w1,hut,hg,hF,hR,e1,e1',e2,e2']
 have hil3:(i:Int)<9223372036854775807:=by omega
 refine⟨hil,hlt,hlt,hil,hlt,hlt,hs,hil,hlt,hlt,⟨h1,h2⟩,Bn (by kernel_rfl),?_⟩
 refine AC (Y:=Nat) (λk=>k<=P.fs.length/\LH P.fs G.name P.fs.length=LH P.fs G.name k)
  (λk=>⟨[(0,true,.one (.s 0)),(2,true,.one (.p 2 0 0)),(3,true,.one (.p 3 0 0)),(4,true,.one (.v (.int .i64 (i:Int)))),(8,true,.one (.p 8 0 0)),(11,true,.one (.v (.int .i64 (k:Int))))],
   [(0,.vec 0 zUc (l.map Un.c)),(2,.vec 0 fl3 [[.v (.slice none 0 0),.v (.slice none 0 0),.v (.slice none 0 0)]]),(3,.vec 0 fl3 [pqR P]),(8,.vec 0 fl4 [G.c])]⟩)
  (λk=>k) P.fs.length ⟨Nat.le_refl _,rfl⟩ ?_ ?_
 .refine A2 [] ?_;simp only[seval,go_sem,fl3,fl4,Hw,Fn.c,zFc]
 rintro k ⟨hk,hJ⟩
 refine AP [Gp,Ej n m (P8 n m)] [] _ _ _ ?_
 cases k with
 |zero=>
  obtain⟨s0,b0,c0,d0,h00⟩:=A40 P.fs
  have hins:=jL P.fs G (p:=0) hJ
  simp only[List.take_zero,List.drop_zero,List.map_nil,List.nil_append,Fn.c]at hins
  have hcs:=Vf P.fs
  have hcs2:=Vf (G::P.fs)
  simp only[Fn.c,List.map_cons]at hcs hcs2
  simp only[seval,go_sem,Gp,Ej,FK,Ha,A8,A9,Fn.c,AM,A4,A5,AF,LG,LF,Un.c,MC,MD,Gl.cc,fl3,fl4,h00,w1,jJ,qn,qo,List.take_length]
  refine⟨Bn (by kernel_rfl),Int.le_refl _,⟨(λq h=>by cases h;rfl),hcs,(by omega),(by omega)⟩,⟨Nat.succ_pos _,(λq h=>by cases h;rfl),hcs2,(by omega),(by omega)⟩,Bn (by kernel_rfl),(i+1,⟨P.g,insF P.fs G⟩),⟨hlt,hP2.symm⟩,(by dsimp only;omega),BU (t:=⟨[(0,true,.one (.s 0)),(2,true,.one (.p 2 0 0)),(3,true,.one (.p 3 0 0)),(4,true,.one (.v (.int .i64 ((i+1:Nat):Int))))],
  [(0,.vec 0 zUc (l.map Un.c)),(2,.vec 0 fl3 [[.v (.slice none 0 0),.v (.slice none 0 0),.v (.slice none 0 0)]]),(3,.vec 0 fl3 [[.d (.sl Fq (P.g.c.map cSd)),.d (.sl GP (P.g.a.map Gy.r)),.s 99]]),(99,.vec 0 zFc ((insF P.fs G).map Fn.c))]⟩) ?_ (A2 [.fz 99] ?_)⟩
  .refine A2 [] ?_;simp only[seval,go_sem,fl3,fl4,Hw,dR,Fn.c,Fn.r,zFc,hins,map_append,flatMap_append]
  simp only[seval,go_sem,fl3,Hw,Zv,jK,zFc]
 |succ k=>
 have k1:decide ((0:Int)<((k+1:Nat):Int))=true:=by simp
 have w2:IntKind.i64.wrap (((k+1:Nat):Int)-1)=(k:Int):=by rw[wrap_i64 (by omega) (by omega)];omega
 have hkf:=yt (l:=P.fs) (k:=k) hk
 have hkl:(k:Int)<(P.fs.length:Int):=by omega
 have hkn:(0:Int)<=(k:Int):=by omega
 cases hgt:gtB (P.fs.getD k fnZ).name G.name with
 |true=>
  have hJ2:LH P.fs G.name P.fs.length=LH P.fs G.name k:=by rw[hJ];simp only[LH];exact if_pos hgt
  rw[qk]at hgt
  simp only[seval,go_sem,Gp,Ej,FK,Ha,A8,A9,Fn.c,AM,A4,A5,AF,LG,LF,Un.c,MC,MD,Gl.cc,fl3,fl4,k1,w2,hkf,Fn.r,hgt]
  refine⟨hkl,Bn (by kernel_rfl),k,⟨(by omega),hJ2⟩,(by omega),?_⟩
  refine A2 [] ?_;simp only[seval,go_sem,fl3,fl4,Hw,Fn.c,zFc]
 |false=>
  have hJ2:LH P.fs G.name P.fs.length=k+1:=by rw[hJ];simp only[LH];exact if_neg (by rw[hgt];decide)
  rw[qk]at hgt
  have hins:=jL P.fs G hJ2
  simp only[Fn.c]at hins
  have hcs:=Vf (P.fs.drop (k+1))
  have hcs2:=Vf (G::P.fs.drop (k+1))
  simp only[Fn.c,List.map_cons]at hcs hcs2
  simp only[seval,go_sem,Gp,Ej,FK,Ha,A8,A9,Fn.c,AM,A4,A5,AF,LG,LF,Un.c,MC,MD,Gl.cc,fl3,fl4,k1,w1,w2,hkf,Fn.r,hgt,jJ,qn,qo]
  have hdl:(List.drop (k+1) P.fs).length=P.fs.length-(k+1):=List.length_drop ..
  have htl:(List.take (k+1) P.fs).length=k+1:=by simp;omega
  refine⟨hkl,Bn (by kernel_rfl),(by omega),⟨(by omega),Int.le_refl _⟩,⟨(λq h=>by cases h;rfl),hcs,(by omega),(by omega)⟩,⟨Nat.succ_pos _,(λq h=>by cases h;rfl),hcs2,(by omega),(by omega)⟩,Bn (by kernel_rfl),(i+1,⟨P.g,insF P.fs G⟩),⟨hlt,hP2.symm⟩,(by dsimp only;omega),BU (t:=⟨[(0,true,.one (.s 0)),(2,true,.one (.p 2 0 0)),(3,true,.one (.p 3 0 0)),(4,true,.one (.v (.int .i64 ((i+1:Nat):Int))))],
 [(
  0,.vec 0 zUc (l.map Un.c)),(2,.vec 0 fl3 [[.v (.slice none 0 0),.v (.slice none 0 0),.v (.slice none 0 0)]]),(3,.vec 0 fl3 [[.d (.sl Fq (P.g.c.map cSd)),.d (.sl GP (P.g.a.map Gy.r)),.s 99]]),(99,.vec 0 zFc ((insF P.fs G).map Fn.c))]⟩) ?_ (A2 [.fz 99] ?_)⟩
  .refine A2 [] ?_;simp only[seval,go_sem,fl3,fl4,Hw,dR,Fn.c,Fn.r,zFc,hins,map_append,flatMap_append]
  .simp only[seval,go_sem,fl3,Hw,Zv,jK,zFc]
end
end Go.Proofs.YtapedeoheilnnaaGreat
namespace Go.Sy
open Go Go.RowKit
section
variable {P:Program}{X:Ctx}{w0:World}{n:Nat}
theorem Zw{s:St}{a:Act}{w:World}(h:Holds X w0 n s a w){t:Nat}(ht:lkp s.e t=none)(sl:List (Nat×Nat))(hs:∀p∈sl,lkp s.e p.1=some (true,.one (.p p.2 0 0))/\p.1≠t)(ns:List Nat)(hn:∀k∈ns,(lkp s.h k).isSome=true)(pn:Option (List (Nat×List C×List (List C)))):
  ∃I:Nm,a.tmps.size=n/\(∀p∈X.F,I p.1=p.2)/\(∀p∈sl,a.tmps[p.1]?=some ((I p.2).p 0 0))/\∀(F:Value) (df:List Deferred),Holds ⟨X.M,X.Z,ns.map λk=>(k,I k),pn,df,[]⟩ w0 n s { (a.put (some t) F) with defers:=df } w:=by
 obtain⟨hW,I,lab,fz,hA⟩:=h
 have hput:∀(F:Value) (j:Nat),j≠t->(a.put (some t) F).tmps[j]?=a.tmps[j]?:=by
  intro F j hj
  simp only[Act.put]
  rw[Array.getElem?_setIfInBounds,if_neg (Ne.symm hj)]
 refine⟨I,hA.n,λp hp=>(hA.m.fix p hp).2,λp hp=>?_,λF df=>⟨hW,I,lab,fz,by rw[<- hA.n];exact RX a (some t) F,⟨rfl,λp hp=>by cases hp⟩,λj g v hj=>?_,⟨hA.m.h,hA.m.wf,hA.m.own,hA.m.fzl,hA.m.fzo,hA.m.kept,λp hp=>?_⟩⟩⟩
 .obtain⟨h1,h2⟩:=hs p hp
  obtain⟨x,hx,hd⟩:=hA.e p.1 true _ h1
  simp only[if_true]at hd
  rw[hx,A4n hd]
 .have hjt:j≠t:=by rintro rfl;rw[ht]at hj;cases hj
  obtain⟨x,hx,hd⟩:=hA.e j g v hj
  exact⟨x,by show (a.put (some t) F).tmps[j]?=_;rw[hput F _ hjt];exact hx,hd⟩
 .grind
theorem jM{f:FuncId}{fn:Func}{c:Code}(hf:P.funcs[f]?=some fn)(hb:fn.body=some c)(mem:List MV)(w:World)(M:Nat->Prop)(I:Nm)(lab:Lab)(fz:Nat->Prop)(args:List SV)(mem':List (Option MV))(R:SV)(xs:List Value)
  (hA:AtW (mX M fz I mem.length) w I lab fz (lkp (GE 0 mem)) w) (hlen:xs.length=args.length) (hx:∀(j:Nat) (v:SV) (x:Value),args[j]?=some v->xs[j]?=some x->Ap (hp w) fz lab I (lkp (GE 0 mem)) v x)
  (hnm:∀v∈args,∀k∈v.names,k<mem.length) (hn:args.length<=fn.ntmps)
  (h:Ut (P:=P) (mX M fz I mem.length) w fn.ntmps c ⟨J7 0 args,GE 0 mem⟩ (bodyPostD P fn (LZ w M fz I mem.length mem' R))):Calls P f xs.toArray w (LZ w M fz I mem.length mem' R):=by
 refine calls_of_wp_defers hf hb (h _ w ⟨?_,I,lab,fz,?_,⟨rfl,λp hp=>by cases hp⟩,?_,hA⟩)
 .intro t g v ht _ k hk
  rw[H8]at ht
  simp only[zero_le,if_true,Nat.sub_zero,Option.map_eq_some_iff,jP]at ht
  exact AAV
 .simp_all
 .intro t g v ht
  rw[H8]at ht
  simp only[zero_le,if_true,Nat.sub_zero,Option.map_eq_some_iff,jP]at ht
  exact Ur
theorem dU{X':Ctx}{w:World}{I:Nm}{lab:Lab}{fz:Nat->Prop}{H:Hp}(hM:X'.M=X.M)(hZ:X'.Z=X.Z)(hF:∀p∈X'.F,p∈X.F)(h:AtW X w0 I lab fz H w):AtW X' w0 I lab fz H w:=
 ⟨h.h,h.wf,by rw[hM];exact h.own,h.fzl,by rw[hM,hZ];exact h.fzo,by rw[hM];exact h.kept,λp hp=>h.fix p (hF p hp)⟩
theorem tl{M fz0:Nat->Prop}{I0:Nm}{m:Nat}{s:St}{a:Act}{w:World}{fn:Func}{R:SV}{mem':List (Option MV)}(hM:M=X.M)(hZ:fz0=X.Z)(hF:∀p∈memF I0 0 m,p∈X.F)(hl:m<=mem'.length)(h:Mx P X fn.results.toList (pe R mem') s)(hs:Holds X w0 n s a w):
  ∃x,(results fn a.tmps).run P w= .ok x w/\LZ w0 M fz0 I0 m mem' R (.returned x) w:=by
 obtain⟨cs,s',vs,h1,h2,h3,h4,h5,h6⟩:=h
 obtain⟨_,I',lab',fz',hA'⟩:=Gm h1 a w hs
 obtain⟨x,x1,x2⟩:=K4 hA' h2 h3
 rw[h4]at x2
 refine⟨x,x1,x,I',lab',fz',rfl,Qo (dU (X:=X) (X':=mX M fz0 I0 m) hM hZ hF hA'.m) h6 (λp hp'=>?_),Nv h5 x2⟩
 obtain⟨q1,q2,_⟩:=Ih hp'
 exact PI _ _ _ q1 (by omega)
theorem nL{ops:Array Oper}(sp:List (Spec P X w0)){j0:Nat}{l:List Oper}{st:St}{Q:St->Prop}{Qd:Exit->Act->World->Prop}{a:Act}{w:World}(hP:∀ch a w,Hn X a->Kh X w0 ch w->Qd (.panic ch) a w)(hQ:∀s' a w,Q s'->Holds X w0 n s' a w->Qd .normal a w)
  (hl:∀j,l[j]?=ops[j0+j]?) (hv:K3 sp n ops l st [] ZX Q) (hs:Holds X w0 n st a w):wpOps P ops Qd (List.range' j0 l.length) a w:=by
 obtain⟨hW,I,lab,fz,hA⟩:=hs
 obtain⟨xs,fs,s',h1,_,h2,h3,h4⟩:=PH sp n ops _ _ _ _ _ hv
 refine V7 hP l j0 _ _ xs fs a w I lab fz hl h1 hW hA λa' w' I' lab' fz' hW' hA'=>?_
 have e1:DV xs 0 (λ_=>true) (lkp st.e)=KL xs (lkp st.e):=rfl
 have e2:D7 xs 0 (λ_=>true) (lkp st.h)=KM xs (lkp st.h):=rfl
 rw[e1,e2,<- h3,<- h4]at hW' hA'
 exact hQ s' a' w' (h2 (λt p ht=>hA'.m.h t _ ht)) ⟨hW',I',lab',fz',hA'⟩
end
end Go.Sy
