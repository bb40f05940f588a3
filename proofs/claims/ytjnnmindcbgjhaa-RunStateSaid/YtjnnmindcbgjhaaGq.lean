/- The document's reading of globals, for the machine's programs; that are written one after the other. No conditions but those in each statement. -/
import Derived.Test.YtjnnmindcbgjhaaPg1
import Derived.Test.YtjnnmindcbgjhaaPa9
import Derived.Test.YtjnnmindcbgjhaaRm2
set_option linter.unusedVariables false
set_option linter.unusedSimpArgs false
set_option maxRecDepth 20000
set_option maxHeartbeats 16000000
open List (length_cons length_nil map_append)
namespace Go.Proofs.Ytjnnmindcbgjhaa
open Go Go.Sy Go.RowKit
def Gl.cc (g:Gl):List C:=[.d (.sl H5 (g.c.map cSd)),.d (.sl HU (g.a.map Gy.r))]
def sR1 (s:List UInt8):List C:=[.v (.string (bs s))]
theorem Bk:RowsD sR1 cSd 1:=by
 refine⟨fun a c hc=>?_,fun a c hc=>?_,fun a=>rfl,fun a=>rfl⟩
 ·simp only[sR1,List.mem_singleton]at hc;subst hc;rfl
 ·simp only[sR1,List.mem_singleton]at hc;subst hc;rfl
inductive Gi where
 |c (x:List UInt8)
 |a (x t:List UInt8)
def Wz:List UInt8:=[99,101,108,108]
def fr:List UInt8:=[97,114,114,97,121]
def Gi.tk:Gi→List Kt
 | .c x=>[(0,Wz),(0,x),(2,[59])]
 | .a x t=>[(0,fr),(0,x),(2,[91]),(1,t),(2,[93]),(2,[59])]
def Gi.ok:Gi→Prop
 | .c x=>Ji x=false
 | .a x t=>Ji x=false∧Ct t∧0<numW t 0∧numW t 0≤1048576
def giK:List Gi→List Kt
 |[]=>[]
 |g::l=>g.tk++giK l
def giA (cs:List (List UInt8)) (as':List Gy):List Gi→Gl
 |[]=>⟨cs,as'⟩
 | .c x::l=>giA (cs++[x]) as' l
 | .a x t::l=>giA cs (as'++[⟨x,numW t 0⟩]) l
def giV (l:List Gi):Gl:=giA [] [] l
def Gy.cc (a:Gy):List C:=[.v (.string (bs a.s)),.v (.int .i64 a.n)]
def zSr:List C:=[.v (.string (bs []))]
def zGc:List C:=[.v (.string (bs [])),.v (.int .i64 0)]
theorem M3:RowsD Gy.cc Gy.r 2:=by
 refine⟨fun a c hc=>?_,fun a c hc=>?_,fun a=>rfl,fun a=>rfl⟩
 ·simp only[Gy.cc,List.mem_cons,List.not_mem_nil,or_false]at hc;rcases hc with rfl|rfl<;>rfl
 ·simp only[Gy.cc,List.mem_cons,List.not_mem_nil,or_false]at hc;rcases hc with rfl|rfl<;>rfl
abbrev z2:List C:=[.v (.bool false),.v (.bool false)]
theorem Sfx.takY {p:Pr} {k:Int} {t:List UInt8} {ts:List Kt} (h:Sfx p ((k,t)::ts)) (hk:(k != 1)=true):Go.Proofs.Ytjnnmindcbgjhaa.isT t p=true∧BC t p=Go.Proofs.Ytjnnmindcbgjhaa.adv p:=by
 have e:Go.Proofs.Ytjnnmindcbgjhaa.isT t p=true:=by rw[h.isT,hk];simp
 exact⟨e,dZ e⟩
theorem Sfx.takN {p:Pr} {k:Int} {t u:List UInt8} {ts:List Kt} (h:Sfx p ((k,t)::ts)) (hu:(t==u)=false):Go.Proofs.Ytjnnmindcbgjhaa.isT u p=false∧BC u p=p:=by
 have e:Go.Proofs.Ytjnnmindcbgjhaa.isT u p=false:=by rw[h.isT,hu];simp
 exact⟨e,da e⟩
theorem Sfx.namSt {p:Pr} {t:List UInt8} {ts:List Kt} (h:Sfx p ((0,t)::ts)) (hw:Ji t=false):Go.Proofs.Ytjnnmindcbgjhaa.nameB p=true∧Cz p=t:=by
 have e:Go.Proofs.Ytjnnmindcbgjhaa.nameB p=true:=by rw[h.nameB,hw];rfl
 exact⟨e,by unfold Cz;rw[if_pos e];exact h.hd.2⟩
abbrev gSt (q:Pr) (cs:List (List UInt8)) (as':List Gy):St:=⟨[(2,true,.one (.p 2 0 0)),(8,true,.one (.p 28 0 0)),(9,true,.one (.p 9 0 0))],[(2,.vec 0 z2 [[cNr,cNr]]),(28,.vec 0 zPr [q.c]),(9,.vec 0 z2 [[.s 1000,.s 1001]]),(1000,.vec 0 zSr (cs.map sR1)),(1001,.vec 0 zGc (as'.map Gy.cc))]⟩
abbrev SO (L:List Gi) (s:List UInt8):Prop:=Ct s∧(∀g∈L,g.ok)∧L.length≤19∧∃T,rxT s=(T,0,0)∧T.map kt=giK L
abbrev JX (L:List Gi) (s:List UInt8):SV:=.tup [.inr (giV L).cc,.inl (.v (.int .i64 0)),.inl (.v (.int .i64 0))]
noncomputable abbrev OP:ArgC ((List UInt8)×Unit):=(acS (cStr) ac0)
abbrev SP (L:List Gi):Prop:=CY Try.prog 37 OP (fun p:(List UInt8)×Unit=>SO L p.1) (fun p:(List UInt8)×Unit=>JX L p.1)
theorem Ye (L:List Gi):∀p:(List UInt8)×Unit,((fun p:(List UInt8)×Unit=>JX L p.1) p).names=[]:=by intro p;rfl
noncomputable def EH {X:Ctx} {w0:World} (L:List Gi) (h:SP L):Sy.Spec Try.prog X w0:=D4 37 Try.call37 OP (fun p:(List UInt8)×Unit=>SO L p.1) (fun p:(List UInt8)×Unit=>JX L p.1) (Ye L) h
attribute [local go_sem] Pr.c zTk
theorem aX (L:List Gi):SP L:=by
 rintro ⟨s,_u⟩ w fz xs hc hfz hl hx
 refine BZ Try.func37 rfl w fz [ypTok,A7,AG,A8,AC,AH,Ig] [] OP (fun p:(List UInt8)×Unit=>JX L p.1) _ xs hfz hl hx (jN rfl) ?_
 clear hx hl hfz xs
 simp only[Try.f37]
 obtain⟨hs,hL,hn,T,hT,hK⟩:=hc
 have hok:=b7 s (s.length:Int)
 rw[hT]at hok
 simp only[↓eB,seval,go_sem,ypTok,Ah,Ag,Ai,Ac,Tok.r,Ad,ptR,Af,AS,AR,AQ,hT]
 try simp only[A3,A4]
 repeat' (first|exact ck|with_reducible apply And.intro)
 all_goals try first|exact hs|decide|omega
 generalize (s.length:Int)=N at hok ⊢
 have hS:Sfx (p0 T N) (giK L):=⟨hok,rfl,hK⟩
 refine AU (Y:=Pr×List (List UInt8)×List Gy×List Gi) (fun y=>Sfx y.1 (giK y.2.2.2)∧giA y.2.1 y.2.2.1 y.2.2.2=giV L∧(∀g∈y.2.2.2,g.ok)∧y.2.1.length+y.2.2.1.length+y.2.2.2.length≤19)
  (fun y=>gSt y.1 y.2.1 y.2.2.1) (fun y=>y.2.2.2.length) (p0 T N,[],[],L) ⟨hS,rfl,hL,by simpa using hn⟩ ?_ ?_
 ·refine A2 [.nilr 9 0 0 1000 zSr,.nilr 9 0 1 1001 zGc] ?_;simp only[↓eB,seval,go_sem,zSr,zGc,p0]
 ·rintro ⟨q,cs,as',M⟩ ⟨g1,g2,g3,g4⟩
  refine Ak [A7,AG,A8,AC,AH,Ig] [] _ _ _ ?_
  dsimp only at g1 g2 g3 g4
  have hlen:IntKind.i64.wrap ((cs.length:Int)+(as'.length:Int))=((cs.length+as'.length:Nat):Int):=by rw[wrap_i64 (by omega) (by omega)];rfl
  have hlen2:decide ((20:Int)≤((cs.length+as'.length:Nat):Int))=false:=by simp;omega
  have hE:(q.e==0)=true:=by rw[g1.e];rfl
  have hE2:(q.e != 0)=false:=by rw[g1.e];rfl
  cases M with
  |nil=>
   have g1:Sfx q []:=g1
   have h1:(q.e==0&&decide (q.i<(q.l.length:Int)))=false:=by rw[hE,g1.nil];simp
   have hr:giV L=⟨cs,as'⟩:=g2.symm
   simp only[↓eB,seval,go_sem,A8,AN,AC,AG,AH,A7,Ig,GA,Ah,Ag,Ai,Ac,Tok.r,Ad,ptR,Af,AS,AR,AQ,h1,hE2]
   try simp only[A3,A4]
   repeat' first|exact ck|with_reducible apply And.intro|intro _
   all_goals first|exact hE|(rename_i h;first|exact oI h|exact nah h)|(rename_i _ h _ g;exact sL h g)|decide|omega|(refine A0 [.fz 1000,.fz 1001] ?_;simp only[↓eB,seval,go_sem,bne,JX,hr,Gl.cc,Bk.ds,Bk.fz,M3.ds,M3.fz,zSr,zGc,HU,H5])
  |cons m M=>
  cases m with
  |c x=>
   have hw:Ji x=false:=g3 _ (List.mem_cons_self ..)
   have g1:Sfx q ((0,Wz)::(0,x)::(2,[59])::giK M):=g1
   have hlt:=g1.lt
   have h1:(q.e==0&&decide (q.i<(q.l.length:Int)))=true:=by rw[hE];simp[hlt]
   obtain⟨i1,e1⟩:=g1.takY (by decide)
   have a1:=g1.adv
   obtain⟨i2,e2⟩:=a1.namSt hw
   have e3:=a1.nam hw
   have a2:=a1.adv
   have e4:=a2.wan (by decide)
   have a3:=a2.adv
   have hok1:=g1.ok
   have hok2:=a1.ok
   have hok3:=a2.ok
   simp only[Wz]at i1 e1
   simp only[↓eB,seval,go_sem,A8,AN,AC,AG,AH,A7,Ig,GA,Ah,Ag,Ai,Ac,Tok.r,Ad,ptR,Af,AS,AR,AQ,h1,i1,e1,i2,e2,e3,e4,hlen,hlen2]
   have hst:B4 [[C.v (Value.string (bs x))]]:=by
    intro r hr c hc
    rw[List.mem_singleton.1 hr]at hc
    rw[List.mem_singleton.1 hc];rfl
   try simp only[A3,A4]
   repeat' (first|exact ck|with_reducible apply And.intro)
   all_goals try first|exact hok1|exact hok2|exact hok3|exact hok2.i|exact hst|decide|omega
   refine⟨(adv (adv (adv q)),cs++[x],as',M),⟨a3,g2,fun g hg=>g3 g (List.mem_cons_of_mem _ hg),by simp only[List.length_append,length_cons,length_nil]at g4 ⊢;omega⟩,Nat.lt_succ_self _,BS (t:=⟨[(2,true,.one (.p 2 0 0)),(8,true,.one (.p 28 0 0)),(9,true,.one (.p 9 0 0))],[(2,.vec 0 z2 [[cNr,cNr]]),(28,.vec 0 zPr [(adv (adv (adv q))).c]),(9,.vec 0 z2 [[.s 73,.s 1001]]),(73,.vec 0 zSr ((cs++[x]).map sR1)),(1001,.vec 0 zGc (as'.map Gy.cc))]⟩) ?_ ?_⟩
   ·refine A2 [] ?_;simp only[↓eB,seval,go_sem,zSr,zGc,sR1,Bk.fn,M3.fn,map_append,List.flatMap_append]
   ·refine A2 [.mv 73 1000] ?_;simp only[↓eB,seval,go_sem,zSr,zGc,Bk.mv,Bk.fn,M3.mv,M3.fn]
  |a x t=>
   obtain⟨hw,ht,hn0,hn1⟩:Ji x=false∧Ct t∧0<numW t 0∧numW t 0≤1048576:=g3 _ (List.mem_cons_self ..)
   have g1:Sfx q ((0,fr)::(0,x)::(2,[91])::(1,t)::(2,[93])::(2,[59])::giK M):=g1
   have hlt:=g1.lt
   have h1:(q.e==0&&decide (q.i<(q.l.length:Int)))=true:=by rw[hE];simp[hlt]
   obtain⟨i1,e1⟩:=g1.takN (u:=Wz) (by decide)
   have e1':=g1.wan (by decide)
   have a1:=g1.adv
   obtain⟨i2,e2⟩:=a1.namSt hw
   have e3:=a1.nam hw
   have a2:=a1.adv
   have e4:=a2.wan (by decide)
   have a3:=a2.adv
   have hok1:=g1.ok
   have hok2:=a1.ok
   have hok3:=a2.ok
   obtain⟨q3,hq3⟩:∃q3,adv (adv (adv q))=q3:=⟨_,rfl⟩
   rw[hq3]at e4 a3
   have h3:(q3.e==0&&decide (q3.i<(q3.l.length:Int)))=true:=by rw[a3.e];simp[a3.lt]
   have h3a:=a3.ok.i.1
   have h3b:=a3.lt
   have k3:(q3.l.getD q3.i.toNat tk0).k=1:=a3.hd.1
   have t3:(q3.l.getD q3.i.toNat tk0).t=t:=a3.hd.2
   have a4:=a3.adv
   have e5:B2 [93] ⟨q3.l,IntKind.i64.wrap (q3.i+1),q3.en,q3.e,q3.at',q3.deep,q3.n⟩=adv (adv q3):=a4.wan (by decide)
   have a5:=a4.adv
   have e6:=a5.wan (by decide)
   have a6:=a5.adv
   have hok4:=a3.ok
   have hok5:okP ⟨q3.l,IntKind.i64.wrap (q3.i+1),q3.en,q3.e,q3.at',q3.deep,q3.n⟩:=a4.ok
   have hok6:=a5.ok
   obtain⟨q5,hq5⟩:∃q5,adv (adv q3)=q5:=⟨_,rfl⟩
   rw[hq5]at e5 e6 hok6 a6
   have n1:decide ((1048576:Int)<numW t 0)=false:=by simp;omega
   have n2:(numW t 0==0)=false:=by simp;omega
   simp only[Wz]at i1 e1
   simp only[fr]at e1'
   have hst:B4 [[C.v (Value.string (bs x)),C.v (Value.int .i64 (numW t 0))]]:=by
    intro r hr c hc
    rw[List.mem_singleton.1 hr]at hc
    simp only[List.mem_cons,List.not_mem_nil,or_false]at hc
    rcases hc with rfl|rfl<;>rfl
   simp only[↓eB,seval,go_sem,A8,AN,AC,AG,AH,A7,Ig,GA,Ah,Ag,Ai,Ac,Tok.r,Ad,ptR,Af,AS,AR,AQ,h1,i1,e1,e1',i2,e2,e3,e4,e5,e6,h3,k3,t3,n1,n2,hlen,hlen2]
   try simp only[A3,A4]
   repeat' (first|exact ck|with_reducible apply And.intro)
   all_goals try first|exact hok1|exact hok2|exact hok3|exact hok4|exact hok5|exact hok6|exact hok2.i|exact hst|exact ht|exact h3a|exact h3b|decide|omega
   refine⟨(adv q5,cs,as'++[⟨x,numW t 0⟩],M),⟨a6,g2,fun g hg=>g3 g (List.mem_cons_of_mem _ hg),by simp only[List.length_append,length_cons,length_nil]at g4 ⊢;omega⟩,Nat.lt_succ_self _,BS (t:=⟨[(2,true,.one (.p 2 0 0)),(8,true,.one (.p 28 0 0)),(9,true,.one (.p 9 0 0))],[(2,.vec 0 z2 [[cNr,cNr]]),(28,.vec 0 zPr [(adv q5).c]),(9,.vec 0 z2 [[.s 1000,.s 145]]),(1000,.vec 0 zSr (cs.map sR1)),(145,.vec 0 zGc ((as'++[(⟨x,numW t 0⟩:Gy)]).map Gy.cc))]⟩) ?_ ?_⟩
   ·refine A2 [] ?_;simp only[↓eB,seval,go_sem,zSr,zGc,Gy.cc,Bk.fn,M3.fn,map_append,List.flatMap_append]
   ·refine A2 [.mv 145 1001] ?_;simp only[↓eB,seval,go_sem,zSr,zGc,Bk.mv,Bk.fn,M3.mv,M3.fn]
end Go.Proofs.Ytjnnmindcbgjhaa
namespace Go.Proofs.Ytjnnmindcbgjhaa
open Go Go.Sy Go.RowKit
theorem A0a (v:SV) (a b:Gl) (h:leV v (.agg a.cc)) (h':leV v (.agg b.cc)):a=b:=by
 cases v with
 |one c=>exact h.elim
 |tup l=>exact h.elim
 |agg l=>
  obtain⟨cs,as'⟩:=a
  obtain⟨cs2,as2⟩:=b
  match l,h,h' with
  |[c0,c1],⟨h0,h1,_⟩,⟨g0,g1,_⟩=>
   have k1:=Az Rt (F0 h0 g0)
   have k2:=Az Ru (F0 h1 g1)
   simp only at k1 k2
   subst k1;subst k2;rfl
noncomputable def cGl:Cod Gl:=Gn (fun g=>.agg g.cc) A0a (fun g=>rfl)
theorem Lt (g:Gl):cGl.e g= .agg g.cc:=rfl
theorem Lu (cs:List (List UInt8)) (as':List Gy):cGl.d (.agg [.d (.sl H5 (cs.map cSd)),.d (.sl HU (as'.map Gy.r))])=some ⟨cs,as'⟩:=D9 (e:=fun g:Gl=>.agg g.cc) (a:=⟨cs,as'⟩) (Dp _)
def Gl.ns (g:Gl):List (List UInt8):=g.c++g.a.map Gy.s
def Rc (l:List (List UInt8)):Prop:=∀i j,j<i→i<l.length→(l.getD j []==l.getD i [])=false
theorem u9 (l:List (List UInt8)):(l.map cSd).map (fun r=>r.map oD)=l.map sR1:=by simp[cSd,oD,sR1]
theorem cU (l:List (List UInt8)):B4 (l.map sR1):=by
 intro r h c hc
 obtain⟨x,_,rfl⟩:=List.mem_map.1 h
 rw[List.mem_singleton.1 hc];rfl
theorem kX {l:List (List UInt8)} {i:Nat} (h:i<l.length) (z:List C):(l.map sR1).getD i z=[.v (.string (bs (l.getD i [])))]:=by simp[List.getD,h,sR1]
abbrev X0 (g:Gl):Prop:=g.c.length≤5000∧g.a.length≤5000∧Rc g.ns
abbrev NB (g:Gl):SV:=.one (.v (.int .i64 0))
noncomputable abbrev Sc:ArgC ((Gl)×Unit):=(acS (cGl) ac0)
abbrev fv:Prop:=CY Try.prog 38 Sc (fun p:(Gl)×Unit=>X0 p.1) (fun p:(Gl)×Unit=>NB p.1)
theorem fw:∀p:(Gl)×Unit,((fun p:(Gl)×Unit=>NB p.1) p).names=[]:=by intro p;rfl
attribute [local go_sem] Gl.cc Lu Lt sR1
theorem lr:fv:=by
 rintro ⟨g,_u⟩ w fz xs hc hfz hl hx
 refine BZ Try.func38 rfl w fz [] [] Sc (fun p:(Gl)×Unit=>NB p.1) _ xs hfz hl hx (jN rfl) ?_
 clear hx hl hfz xs
 simp only[Try.f38]
 obtain⟨pc,pa⟩:=g
 obtain⟨h1,h2,h3⟩:=hc
 dsimp only at h1 h2
 have hst:=cU pc
 have hcs:=u9 pc
 simp only[↓eB,seval,go_sem,Bk.fn,Bk.mv]
 refine⟨⟨fun q h=>by cases h;rfl,by rw[hcs];exact hst,by omega,by omega⟩,?_⟩
 refine AU (Y:=Nat) (fun i=>i≤pa.length)
  (fun i=>⟨[(1,true,.one (.p 1 0 0)),(2,true,.one (.v (.int .i64 0))),(3,true,.one (.s 1000)),(4,true,.one (.v (.int .i64 (i:Int))))],
   [(1,.vec 0 [.v (.bool false),.v (.bool false)] [[.d (.sl H5 (pc.map cSd)),.d (.sl HU (pa.map Gy.r))]]),(1000,.vec 0 zSr ((pc++(pa.take i).map Gy.s).map sR1))]⟩)
  (fun i=>pa.length-i) 0 (Nat.zero_le _) ?_ ?_
 ·refine A2 [.mv 9 1000] ?_;simp only[↓eB,seval,go_sem,Bk.fn,Bk.mv,hcs,zSr]
 ·rintro i hi
  refine Ak [] [] _ _ _ ?_
  have w1:IntKind.i64.wrap ((i:Int)+1)=((i+1:Nat):Int):=by rw[wrap_i64 (by omega) (by omega)];rfl
  cases hx:pa[i]? with
  |none=>
   have g2:=List.getElem?_eq_none_iff.1 hx
   have g1:=BA g2
   simp only[↓eB,seval,go_sem,Bk.fn,Bk.mv,g1]
   rw[List.take_of_length_le g2]
   obtain⟨L,hL⟩:∃L,pc++pa.map Gy.s=L:=⟨_,rfl⟩
   have hln:L.length≤10000:=by rw[← hL];simp;omega
   have h3':Rc L:=by rw[← hL];exact h3
   rw[hL]
   refine AU (Y:=Nat) (fun i=>i≤L.length)
    (fun i=>⟨[(2,true,.one (.v (.int .i64 0))),(3,true,.one (.s 1000)),(5,true,.one (.v (.int .i64 (i:Int))))],[(1000,.vec 0 zSr (L.map sR1))]⟩)
    (fun i=>L.length-i) 0 (Nat.zero_le _) ?_ ?_
   ·refine A2 [] ?_;simp only[↓eB,seval,go_sem,Bk.fn,Bk.mv,zSr]
   ·rintro j hj
    refine Ak [] [] _ _ _ ?_
    have w2:IntKind.i64.wrap ((j:Int)+1)=((j+1:Nat):Int):=by rw[wrap_i64 (by omega) (by omega)];rfl
    by_cases hjl:j<L.length
    ·have k1:=B9 hjl
     have hjt:=kX hjl
     simp only[↓eB,seval,go_sem,Bk.fn,Bk.mv,k1]
     refine AU (Y:=Nat) (fun k=>k≤j)
      (fun k=>⟨[(2,true,.one (.v (.int .i64 0))),(3,true,.one (.s 1000)),(5,true,.one (.v (.int .i64 (j:Int)))),(6,true,.one (.v (.int .i64 (k:Int))))],[(1000,.vec 0 zSr (L.map sR1))]⟩)
      (fun k=>j-k) 0 (Nat.zero_le _) ?_ ?_
     ·refine A2 [] ?_;simp only[↓eB,seval,go_sem,Bk.fn,Bk.mv,zSr]
     ·rintro k hk
      refine Ak [] [] _ _ _ ?_
      have w3:IntKind.i64.wrap ((k:Int)+1)=((k+1:Nat):Int):=by rw[wrap_i64 (by omega) (by omega)];rfl
      by_cases hkj:k<j
      ·have q1:=B9 hkj
       have hkt:=kX (show k<L.length by omega)
       have hne:=h3' j k hkj hjl
       simp only[↓eB,seval,go_sem,Bk.fn,Bk.mv,q1,hjt,hkt,hne,w3,zSr]
       refine⟨(by omega),(by omega),(by omega),hjl,C7 (by kernel_rfl),k+1,hkj,(by omega),?_⟩
       refine A2 [] ?_;simp only[↓eB,seval,go_sem,Bk.fn,Bk.mv,zSr]
      ·have q1:=BA (Nat.le_of_not_lt hkj)
       simp only[↓eB,seval,go_sem,Bk.fn,Bk.mv,q1,w2]
       refine⟨j+1,hjl,(by omega),?_⟩
       refine A2 [] ?_;simp only[↓eB,seval,go_sem,Bk.fn,Bk.mv,zSr]
    ·have k1:=BA (Nat.le_of_not_lt hjl)
     simp only[↓eB,seval,go_sem,Bk.fn,Bk.mv,k1]
     try simp only[A3,A4]
     repeat' first|exact ck|with_reducible apply And.intro|intro _
     all_goals first|exact trivial|(rename_i h;first|exact oI h|exact nah h)|(rename_i _ h _ g;exact sL h g)|decide|omega|(refine A0 [] ?_;simp only[↓eB,seval,go_sem,bne,NB,Bk.fn,Bk.mv])
  |some y=>
   have hlt:=(List.getElem?_eq_some_iff.1 hx).1
   have g1:=B9 hlt
   obtain⟨ys,yn⟩:=y
   have hs:∀z,(pa.map Gy.r).getD i z=[.v (.string (bs ys)),.v (.int .i64 yn)]:=by intro z;simp[List.getD,hx,Gy.r]
   simp only[↓eB,seval,go_sem,Bk.fn,Bk.mv,g1,w1,hs]
   have hil:(i:Int)<(pa.length:Int):=by omega
   have hln:(pc++List.map Gy.s (List.take i pa)).length=pc.length+i:=by simp;omega
   have ht:(pc++(pa.take (i+1)).map Gy.s).map sR1=(pc++(pa.take i).map Gy.s).map sR1++[[.v (.string (bs ys))]]:=by
    rw[List.take_add_one,hx];simp[sR1]
   have hrs:B4 [[C.v (Value.string (bs ys))]]:=cU [ys]
   refine⟨⟨hil,rfl⟩,⟨⟨rfl,.inl rfl⟩,(fun q h=>by cases h;rfl),hrs,(by decide),(by rw[hln];omega),(by rw[hln];omega)⟩,i+1,hlt,(by omega),BS (t:=⟨[(1,true,.one (.p 1 0 0)),(2,true,.one (.v (.int .i64 0))),(3,true,.one (.s 25)),(4,true,.one (.v (.int .i64 ((i+1:Nat):Int))))],
    [(1,.vec 0 [.v (.bool false),.v (.bool false)] [[.d (.sl H5 (pc.map cSd)),.d (.sl HU (pa.map Gy.r))]]),(25,.vec 0 zSr ((pc++(pa.take (i+1)).map Gy.s).map sR1))]⟩) ?_ ?_⟩
   ·refine A2 [] ?_;simp only[↓eB,seval,go_sem,Bk.fn,Bk.mv,zSr,ht,map_append,List.flatMap_append]
   ·refine A2 [.mv 25 1000] ?_;simp only[↓eB,seval,go_sem,Bk.fn,Bk.mv,zSr]
noncomputable def GV {X:Ctx} {w0:World}:Sy.Spec Try.prog X w0:=D4 38 Try.call38 Sc (fun p:(Gl)×Unit=>X0 p.1) (fun p:(Gl)×Unit=>NB p.1) fw lr
end Go.Proofs.Ytjnnmindcbgjhaa
namespace Go.Proofs.Ytjnnmindcbgjhaa
open Go Go.Sy Go.RowKit
def Ua:List UInt8:=[99,101,108,108,32,99,59,32,99,101,108,108,32,100,59,32,97,114,114,97,121,32,116,91,52,93,59,32,97,114,114,97,121,32,117,91,49,93,59]
def fy:List Gi:=[.c [99],.c [100],.a [116] [52],.a [117] [49]]
theorem A6N:rxT Ua=([⟨0,[99,101,108,108],0⟩,⟨0,[99],5⟩,⟨2,[59],6⟩,⟨0,[99,101,108,108],8⟩,⟨0,[100],13⟩,⟨2,[59],14⟩,⟨0,[97,114,114,97,121],16⟩,⟨0,[116],22⟩,⟨2,[91],23⟩,⟨1,[52],24⟩,⟨2,[93],25⟩,⟨2,[59],26⟩,⟨0,[97,114,114,97,121],28⟩,⟨0,[117],34⟩,⟨2,[91],35⟩,⟨1,[49],36⟩,⟨2,[93],37⟩,⟨2,[59],38⟩],0,0):=by kernel_rfl
def Ub:List UInt8:=[99,101,108,108,32,99,59,32,97,114,114,97,121,32,116,91,50,93,59]
def gA:List Gi:=[.c [99],.a [116] [50]]
theorem A6O:rxT Ub=([⟨0,[99,101,108,108],0⟩,⟨0,[99],5⟩,⟨2,[59],6⟩,⟨0,[97,114,114,97,121],8⟩,⟨0,[116],14⟩,⟨2,[91],15⟩,⟨1,[50],16⟩,⟨2,[93],17⟩,⟨2,[59],18⟩],0,0):=by kernel_rfl
def Uc:List UInt8:=[]
def gC:List Gi:=[]
theorem A6P:rxT Uc=([],0,0):=by kernel_rfl
def Ud:List UInt8:=[99,101,108,108,32,99,59,32,99,101,108,108,32,100,59,32,99,101,108,108,32,101,59,32,97,114,114,97,121,32,116,91,57,93,59]
def gD:List Gi:=[.c [99],.c [100],.c [101],.a [116] [57]]
theorem A6Q:rxT Ud=([⟨0,[99,101,108,108],0⟩,⟨0,[99],5⟩,⟨2,[59],6⟩,⟨0,[99,101,108,108],8⟩,⟨0,[100],13⟩,⟨2,[59],14⟩,⟨0,[99,101,108,108],16⟩,⟨0,[101],21⟩,⟨2,[59],22⟩,⟨0,[97,114,114,97,121],24⟩,⟨0,[116],30⟩,⟨2,[91],31⟩,⟨1,[57],32⟩,⟨2,[93],33⟩,⟨2,[59],34⟩],0,0):=by kernel_rfl
def Ue:List UInt8:=[99,101,108,108,32,100,59,32,97,114,114,97,121,32,117,91,51,93,59]
def gE:List Gi:=[.c [100],.a [117] [51]]
theorem A6R:rxT Ue=([⟨0,[99,101,108,108],0⟩,⟨0,[100],5⟩,⟨2,[59],6⟩,⟨0,[97,114,114,97,121],8⟩,⟨0,[117],14⟩,⟨2,[91],15⟩,⟨1,[51],16⟩,⟨2,[93],17⟩,⟨2,[59],18⟩],0,0):=by kernel_rfl
theorem MX:∀x∈([[99],[100],[101],[116],[117]]:List (List UInt8)),Ji x=false:=by decide
structure glO (s:List UInt8) (L:List Gi):Prop where
 sm:Ct s
 o:∀g∈L,g.ok
 n:L.length≤19
 t:∃T,rxT s=(T,0,0)∧T.map kt=giK L
theorem A0b:glO Ua fy:=by
 refine⟨by have e:Ua.length=39:=rfl;unfold Ct;omega,?_,by decide,_,A6N,rfl⟩
 intro g hg
 simp only[fy,List.mem_cons,List.not_mem_nil,or_false]at hg
 rcases hg with rfl|rfl|rfl|rfl
 all_goals first|exact MX _ (by decide)|exact⟨MX _ (by decide),by unfold Ct;simp only[length_cons,length_nil];omega,by decide,by decide⟩
theorem A0c:glO Ub gA:=by
 refine⟨by have e:Ub.length=19:=rfl;unfold Ct;omega,?_,by decide,_,A6O,rfl⟩
 intro g hg
 simp only[gA,List.mem_cons,List.not_mem_nil,or_false]at hg
 rcases hg with rfl|rfl
 all_goals first|exact MX _ (by decide)|exact⟨MX _ (by decide),by unfold Ct;simp only[length_cons,length_nil];omega,by decide,by decide⟩
theorem A0d:glO Uc gC:=by
 refine⟨by have e:Uc.length=0:=rfl;unfold Ct;omega,?_,by decide,_,A6P,rfl⟩
 intro g hg
 simp only[gC,List.mem_cons,List.not_mem_nil,or_false]at hg
theorem A0e:glO Ud gD:=by
 refine⟨by have e:Ud.length=35:=rfl;unfold Ct;omega,?_,by decide,_,A6Q,rfl⟩
 intro g hg
 simp only[gD,List.mem_cons,List.not_mem_nil,or_false]at hg
 rcases hg with rfl|rfl|rfl|rfl
 all_goals first|exact MX _ (by decide)|exact⟨MX _ (by decide),by unfold Ct;simp only[length_cons,length_nil];omega,by decide,by decide⟩
theorem A0f:glO Ue gE:=by
 refine⟨by have e:Ue.length=19:=rfl;unfold Ct;omega,?_,by decide,_,A6R,rfl⟩
 intro g hg
 simp only[gE,List.mem_cons,List.not_mem_nil,or_false]at hg
 rcases hg with rfl|rfl
 all_goals first|exact MX _ (by decide)|exact⟨MX _ (by decide),by unfold Ct;simp only[length_cons,length_nil];omega,by decide,by decide⟩
def glS (g:Int):List UInt8:=if (g.tmod 5==0)=true then Ua else if (g.tmod 5==1)=true then Ub else if (g.tmod 5==2)=true then Uc else if (g.tmod 5==3)=true then Ud else Ue
def glLs (g:Int):List Gi:=if (g.tmod 5==0)=true then fy else if (g.tmod 5==1)=true then gA else if (g.tmod 5==2)=true then gC else if (g.tmod 5==3)=true then gD else gE
theorem A0g (g:Int):glO (glS g) (glLs g):=by
 unfold glS glLs
 by_cases h0:(g.tmod 5==0)=true
 ·rw[if_pos h0,if_pos h0];exact A0b
 rw[if_neg h0,if_neg h0]
 by_cases h1:(g.tmod 5==1)=true
 ·rw[if_pos h1,if_pos h1];exact A0c
 rw[if_neg h1,if_neg h1]
 by_cases h2:(g.tmod 5==2)=true
 ·rw[if_pos h2,if_pos h2];exact A0d
 rw[if_neg h2,if_neg h2]
 by_cases h3:(g.tmod 5==3)=true
 ·rw[if_pos h3,if_pos h3];exact A0e
 rw[if_neg h3,if_neg h3];exact A0f
abbrev SQ (g:Int):Prop:=0≤g
abbrev Cf (g:Int):SV:=.one (.v (.string (bs (glS g))))
noncomputable abbrev OQ:ArgC ((Int)×Unit):=(acS (cInt .u8) ac0)
abbrev Yf:Prop:=CY Try.prog 45 OQ (fun p:(Int)×Unit=>SQ p.1) (fun p:(Int)×Unit=>Cf p.1)
theorem Yg:∀p:(Int)×Unit,((fun p:(Int)×Unit=>Cf p.1) p).names=[]:=by intro p;first|rfl|exact Fp _|exact HQ _
theorem aY:Yf:=by
 rintro ⟨g,_u⟩ w fz xs hc hfz hl hx
 refine BZ Try.func45 rfl w fz [] [] OQ (fun p:(Int)×Unit=>Cf p.1) _ xs hfz hl hx (jN rfl) ?_
 clear hx hl hfz xs
 simp only[Try.f45]
 cases c0:(g.tmod 5==0) with
 |true=>
  have hr:glS g=Ua:=by unfold glS;rw[if_pos c0]
  simp only[↓eB,seval,go_sem,c0]
  try simp only[A3,A4]
  repeat' first|exact ck|with_reducible apply And.intro|intro _
  all_goals first|exact trivial|(rename_i h;first|exact oI h|exact nah h)|(rename_i _ h _ g;exact sL h g)|decide|omega|(refine A0 [] ?_;simp only[↓eB,seval,go_sem,bne,Cf,hr,Ua])
 |false=>
 cases c1:(g.tmod 5==1) with
 |true=>
  have hr:glS g=Ub:=by unfold glS;rw[if_neg (by rw[c0];decide),if_pos c1]
  simp only[↓eB,seval,go_sem,c0,c1]
  try simp only[A3,A4]
  repeat' first|exact ck|with_reducible apply And.intro|intro _
  all_goals first|exact trivial|(rename_i h;first|exact oI h|exact nah h)|(rename_i _ h _ g;exact sL h g)|decide|omega|(refine A0 [] ?_;simp only[↓eB,seval,go_sem,bne,Cf,hr,Ub])
 |false=>
 cases c2:(g.tmod 5==2) with
 |true=>
  have hr:glS g=Uc:=by unfold glS;rw[if_neg (by rw[c0];decide),if_neg (by rw[c1];decide),if_pos c2]
  simp only[↓eB,seval,go_sem,c0,c1,c2]
  try simp only[A3,A4]
  repeat' first|exact ck|with_reducible apply And.intro|intro _
  all_goals first|exact trivial|(rename_i h;first|exact oI h|exact nah h)|(rename_i _ h _ g;exact sL h g)|decide|omega|(refine A0 [] ?_;simp only[↓eB,seval,go_sem,bne,Cf,hr,Uc])
 |false=>
 cases c3:(g.tmod 5==3) with
 |true=>
  have hr:glS g=Ud:=by unfold glS;rw[if_neg (by rw[c0];decide),if_neg (by rw[c1];decide),if_neg (by rw[c2];decide),if_pos c3]
  simp only[↓eB,seval,go_sem,c0,c1,c2,c3]
  try simp only[A3,A4]
  repeat' first|exact ck|with_reducible apply And.intro|intro _
  all_goals first|exact trivial|(rename_i h;first|exact oI h|exact nah h)|(rename_i _ h _ g;exact sL h g)|decide|omega|(refine A0 [] ?_;simp only[↓eB,seval,go_sem,bne,Cf,hr,Ud])
 |false=>
  have hr:glS g=Ue:=by unfold glS;rw[if_neg (by rw[c0];decide),if_neg (by rw[c1];decide),if_neg (by rw[c2];decide),if_neg (by rw[c3];decide)]
  simp only[↓eB,seval,go_sem,c0,c1,c2,c3]
  try simp only[A3,A4]
  repeat' first|exact ck|with_reducible apply And.intro|intro _
  all_goals first|exact trivial|(rename_i h;first|exact oI h|exact nah h)|(rename_i _ h _ g;exact sL h g)|decide|omega|(refine A0 [] ?_;simp only[↓eB,seval,go_sem,bne,Cf,hr,Ue])
noncomputable def Fc {X:Ctx} {w0:World}:Sy.Spec Try.prog X w0:=D4 45 Try.call45 OQ (fun p:(Int)×Unit=>SQ p.1) (fun p:(Int)×Unit=>Cf p.1) Yg aY
end Go.Proofs.Ytjnnmindcbgjhaa
