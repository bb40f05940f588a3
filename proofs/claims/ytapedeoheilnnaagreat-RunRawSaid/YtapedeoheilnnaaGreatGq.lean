/- The document's reading of globals, for the machine's programs; that are written one after the other. No conditions but those in each statement. -/
import Derived.Test.YtapedeoheilnnaaGreatPg1
import Derived.Test.YtapedeoheilnnaaGreatPa9
import Derived.Test.YtapedeoheilnnaaGreatRm2
set_option linter.all false
set_option maxRecDepth 20000
set_option maxHeartbeats 16000000
open List (length_cons length_nil map_append mem_singleton mem_cons not_mem_nil)
namespace Go.Proofs.YtapedeoheilnnaaGreat
open Go Go.Sy Go.RowKit
variable{p:Pr}{ts:List Kt}
def Gl.cc(g:Gl):List C:=[.d (.sl Gf (g.c.map cSd)),.d (.sl Gw (g.a.map Gy.r))]
def sR1(s:List UInt8):List C:=[.v (.string (bs s))]
theorem CG:RowsD sR1 cSd 1:=by
 refine⟨λa c hc=>?_,λa c hc=>?_,λa=>rfl,λa=>rfl⟩
 .simp only[sR1,mem_singleton]at hc;subst hc;rfl
 simp only[sR1,mem_singleton]at hc;subst hc;rfl
inductive Gi where
 |c (x:List UInt8)
 |a (x t:List UInt8)
def ZL:List UInt8:=[99,101,108,108]
def lv:List UInt8:=[97,114,114,97,121]
def Gi.tk:Gi->List Kt
 | .c x=>[(0,ZL),(0,x),(2,[59])]
 | .a x t=>[(0,lv),(0,x),(2,[91]),(1,t),(2,[93]),(2,[59])]
def Gi.ok:Gi->Prop
 | .c x=>KE x=false
 | .a x t=>KE x=false/\Dr t/\0<numW t 0/\numW t 0<=1048576
def giK:List Gi->List Kt
 |[]=>[]
 |g::l=>g.tk++giK l
def giA(cs:List (List UInt8))(as':List Gy):List Gi->Gl
 |[]=>⟨cs,as'⟩
 | .c x::l=>giA (cs++[x]) as' l
 | .a x t::l=>giA cs (as'++[⟨x,numW t 0⟩]) l
def giV(l:List Gi):Gl:=giA [] [] l
def Gy.cc(a:Gy):List C:=[.v (.string (bs a.s)),.v (.int .i64 a.n)]
def zSr:List C:=[.v (.string (bs []))]
def zGc:List C:=[.v (.string (bs [])),.v (.int .i64 0)]
theorem ME:RowsD Gy.cc Gy.r 2:=by
 refine⟨λa c hc=>?_,λa c hc=>?_,λa=>rfl,λa=>rfl⟩
 .simp only[Gy.cc,mem_cons,not_mem_nil,or_false]at hc;rcases hc with rfl|rfl<;>rfl
 simp only[Gy.cc,mem_cons,not_mem_nil,or_false]at hc;rcases hc with rfl|rfl<;>rfl
abbrev z2:List C:=[.v (.bool false),.v (.bool false)]
theorem Sfx.takY{k:Int}{t:List UInt8}(h:Sfx p ((k,t)::ts))(hk:(k != 1)=true):Go.Proofs.YtapedeoheilnnaaGreat.isT t p=true/\Bi t p=Go.Proofs.YtapedeoheilnnaaGreat.adv p:=by
 have e:Go.Proofs.YtapedeoheilnnaaGreat.isT t p=true:=by rw[h.isT,hk];simp
 exact⟨e,gz e⟩
theorem Sfx.takN{k:Int}{t u:List UInt8}(h:Sfx p ((k,t)::ts))(hu:(t==u)=false):Go.Proofs.YtapedeoheilnnaaGreat.isT u p=false/\Bi u p=p:=by
 have e:Go.Proofs.YtapedeoheilnnaaGreat.isT u p=false:=by rw[h.isT,hu];simp
 exact⟨e,hX e⟩
theorem Sfx.namSt{t:List UInt8}(h:Sfx p ((0,t)::ts))(hw:KE t=false):Go.Proofs.YtapedeoheilnnaaGreat.nameB p=true/\Dy p=t:=by
 have e:Go.Proofs.YtapedeoheilnnaaGreat.nameB p=true:=by rw[h.nameB,hw];rfl
 exact⟨e,by unfold Dy;rw[if_pos e];exact h.hd.2⟩
abbrev gSt(q:Pr)(cs:List (List UInt8))(as':List Gy):St:=⟨[(2,true,.one (.p 2 0 0)),(8,true,.one (.p 28 0 0)),(9,true,.one (.p 9 0 0))],[(2,.vec 0 z2 [[cNr,cNr]]),(28,.vec 0 zPr [q.c]),(9,.vec 0 z2 [[.s 1000,.s 1001]]),(1000,.vec 0 zSr (cs.map sR1)),(1001,.vec 0 zGc (as'.map Gy.cc))]⟩
abbrev bt(L:List Gi)(s:List UInt8):Prop:=Dr s/\(∀g∈L,g.ok)/\L.length<=19/\∃T,rxT s=(T,0,0)/\T.map kt=giK L
abbrev P8(L:List Gi)(s:List UInt8):SV:=.tup [.inr (giV L).cc,.inl (.v (.int .i64 0)),.inl (.v (.int .i64 0))]
noncomputable abbrev P9:ArgC ((List UInt8)×Unit):=(acS (cStr) ac0)
abbrev U5(L:List Gi):Prop:=Cu Tryz.prog 40 P9 (λp:(List UInt8)×Unit=>bt L p.1) (λp:(List UInt8)×Unit=>P8 L p.1)
noncomputable def F9{X:Ctx}{w0:World}(L:List Gi)(h:U5 L):Sy.Spec Tryz.prog X w0:=E2 40 Tryz.call40 P9 _ _ KF4 h
attribute [local go_sem] Pr.c zTk
theorem eY(L:List Gi):U5 L:=by
 rintro ⟨s,_u⟩ w fz xs hc hfz hl hx
 refine Bu Tryz.func40 rfl w fz [ypTok,A6,AC,A7,A9,AG,J7] [] P9 (λp:(List UInt8)×Unit=>P8 L p.1) _ xs hfz hl hx (jN rfl) ?_
 clear hx hl hfz xs
 simp only[Tryz.f40]
 obtain⟨hs,hL,hn,T,hT,hK⟩:=hc
 have hok:=fB s (s.length:Int)
 rw[hT]at hok
 simp only[seval,go_sem,ypTok,Ap,Ao,Aq,Ah,Tok.r,Ak,ptR,An,AP,AO,AQ,hT]
 try simp only[A2,A3]
 repeat' (first|exact ck|with_reducible apply And.intro)
 all_goals try first|exact hs|decide|omega
 generalize (s.length:Int)=N at hok ⊢
 have hS:Sfx (p0 T N) (giK L):=⟨hok,rfl,hK⟩
 refine AK (Y:=Pr×List (List UInt8)×List Gy×List Gi) (λy=>Sfx y.1 (giK y.2.2.2)/\giA y.2.1 y.2.2.1 y.2.2.2=giV L/\(∀g∈y.2.2.2,g.ok)/\y.2.1.length+y.2.2.1.length+y.2.2.2.length<=19)
  (λy=>gSt y.1 y.2.1 y.2.2.1) (λy=>y.2.2.2.length) (p0 T N,[],[],L) ⟨hS,rfl,hL,by simpa using hn⟩ ?_ ?_
 .refine A4 [.nilr 9 0 0 1000 zSr,.nilr 9 0 1 1001 zGc] ?_;simp only[seval,go_sem,zSr,zGc,p0]
 rintro ⟨q,cs,as',M⟩ ⟨g1,g2,g3,g4⟩
 refine AZ [A6,AC,A7,A9,AG,J7] [] _ _ _ ?_
 dsimp only at g1 g2 g3 g4
 have hlen:IntKind.i64.wrap ((cs.length:Int)+(as'.length:Int))=((cs.length+as'.length:Nat):Int):=by rw[wrap_i64 (by omega) (by omega)];rfl
 have hlen2:decide ((20:Int)<=((cs.length+as'.length:Nat):Int))=false:=by simp;omega
 have hE:(q.e==0)=true:=by rw[g1.e];rfl
 have hE2:(q.e != 0)=false:=by rw[g1.e];rfl
 cases M with
 |nil=>
  have g1:Sfx q []:=g1
  have h1:(q.e==0&&decide (q.i<(q.l.length:Int)))=false:=by rw[hE,g1.nil];simp
  have hr:giV L=⟨cs,as'⟩:=g2.symm
  simp only[seval,go_sem,A7,AM,A9,AC,AG,A6,J7,I4,Ap,Ao,Aq,Ah,Tok.r,Ak,ptR,An,AP,AO,AQ,h1,hE2]
  try simp only[A2,A3]
  repeat' first|exact ck|with_reducible apply And.intro|intro _
  all_goals first|exact hE|exact KZ|(refine A1 [.fz 1000,.fz 1001] ?_;simp only[seval,go_sem,bne,P8,hr,Gl.cc,CG.ds,CG.fz,ME.ds,ME.fz,zSr,zGc,Gw,Gf])
 |cons m M=>
 cases m with
 |c x=>
  have hw:KE x=false:=g3 _ (List.mem_cons_self ..)
  have g1:Sfx q ((0,ZL)::(0,x)::(2,[59])::giK M):=g1
  have hlt:=g1.lt
  have h1:(q.e==0&&decide (q.i<(q.l.length:Int)))=true:=by rw[hE];simp[hlt]
  obtain⟨i1,e1⟩:=g1.takY (by decide)
  have a1:=g1.adv
  obtain⟨i2,e2⟩:=a1.namSt hw
  have e3:=a1.nam hw
  have a2:=a1.adv
  have e4:=a2.wan (by decide)
  have a3:=a2.adv
  have hok1:=g1.ok
  have hok2:=a1.ok
  have hok3:=a2.ok
  simp only[ZL]at i1 e1
  simp only[seval,go_sem,A7,AM,A9,AC,AG,A6,J7,I4,Ap,Ao,Aq,Ah,Tok.r,Ak,ptR,An,AP,AO,AQ,h1,i1,e1,i2,e2,e3,e4,hlen,hlen2]
  have hst:Bj [[C.v (Value.string (bs x))]]:=by
   intro r hr c hc
   rw[mem_singleton.1 hr]at hc
   rw[mem_singleton.1 hc];rfl
  try simp only[A2,A3]
  repeat' (first|exact ck|with_reducible apply And.intro)
  all_goals try first|exact hok1|exact hok2|exact hok3|exact hok2.i|exact hst|decide|omega
  refine⟨(adv (adv (adv q)),cs++[x],as',M),⟨a3,g2,λg hg=>g3 g (List.mem_cons_of_mem _ hg),by simp only[List.length_append,length_cons,length_nil]at g4 ⊢;omega⟩,Nat.lt_succ_self _,CJ (t:=⟨[(2,true,.one (.p 2 0 0)),(8,true,.one (.p 28 0 0)),(9,true,.one (.p 9 0 0))],[(2,.vec 0 z2 [[cNr,cNr]]),(28,.vec 0 zPr [(adv (adv (adv q))).c]),(9,.vec 0 z2 [[.s 73,.s 1001]]),(73,.vec 0 zSr ((cs++[x]).map sR1)),(1001,.vec 0 zGc (as'.map Gy.cc))]⟩) ?_ ?_⟩
  .refine A4 [] ?_;simp only[seval,go_sem,zSr,zGc,sR1,CG.fn,ME.fn,map_append,List.flatMap_append]
  refine A4 [.mv 73 1000] ?_;simp only[seval,go_sem,zSr,zGc,CG.mv,CG.fn,ME.mv,ME.fn]
 |a x t=>
 obtain⟨hw,ht,hn0,hn1⟩:KE x=false/\Dr t/\0<numW t 0/\numW t 0<=1048576:=g3 _ (List.mem_cons_self ..)
 have g1:Sfx q ((0,lv)::(0,x)::(2,[91])::(1,t)::(2,[93])::(2,[59])::giK M):=g1
 have hlt:=g1.lt
 have h1:(q.e==0&&decide (q.i<(q.l.length:Int)))=true:=by rw[hE];simp[hlt]
 obtain⟨i1,e1⟩:=g1.takN (u:=ZL) (by decide)
 have e1':=g1.wan (by decide)
 have a1:=g1.adv
 obtain⟨i2,e2⟩:=a1.namSt hw
 have e3:=a1.nam hw
 have a2:=a1.adv
 have e4:=a2.wan (by decide)
 have a3:=a2.adv
 have hok1:=g1.ok
 have hok2:=a1.ok
 have hok3:=a2.ok
 obtain⟨q3,hq3⟩:∃q3,adv (adv (adv q))=q3:=⟨_,rfl⟩
 rw[hq3]at e4 a3
 have h3:(q3.e==0&&decide (q3.i<(q3.l.length:Int)))=true:=by rw[a3.e];simp[a3.lt]
 have h3a:=a3.ok.i.1
 have h3b:=a3.lt
 have k3:(q3.l.getD q3.i.toNat tk0).k=1:=a3.hd.1
 have t3:(q3.l.getD q3.i.toNat tk0).t=t:=a3.hd.2
 have a4:=a3.adv
 have e5:BW [93] ⟨q3.l,IntKind.i64.wrap (q3.i+1),q3.en,q3.e,q3.at',q3.deep,q3.n⟩=adv (adv q3):=a4.wan (by decide)
 have a5:=a4.adv
 have e6:=a5.wan (by decide)
 have a6:=a5.adv
 have hok4:=a3.ok
 have hok5:okP ⟨q3.l,IntKind.i64.wrap (q3.i+1),q3.en,q3.e,q3.at',q3.deep,q3.n⟩:=a4.ok
 have hok6:=a5.ok
 obtain⟨q5,hq5⟩:∃q5,adv (adv q3)=q5:=⟨_,rfl⟩
 rw[hq5]at e5 e6 hok6 a6
 have n1:decide ((1048576:Int)<numW t 0)=false:=by simp;omega
 have n2:(numW t 0==0)=false:=by simp;omega
 simp only[ZL]at i1 e1
 simp only[lv]at e1'
 have hst:Bj [[C.v (Value.string (bs x)),C.v (Value.int .i64 (numW t 0))]]:=by
  intro r hr c hc
  rw[mem_singleton.1 hr]at hc
  simp only[mem_cons,not_mem_nil,or_false]at hc
  rcases hc with rfl|rfl<;>rfl
 simp only[seval,go_sem,A7,AM,A9,AC,AG,A6,J7,I4,Ap,Ao,Aq,Ah,Tok.r,Ak,ptR,An,AP,AO,AQ,h1,i1,e1,e1',i2,e2,e3,e4,e5,e6,h3,k3,t3,n1,n2,hlen,hlen2]
 try simp only[A2,A3]
 repeat' (first|exact ck|with_reducible apply And.intro)
 all_goals try first|exact hok1|exact hok2|exact hok3|exact hok4|exact hok5|exact hok6|exact hok2.i|exact hst|exact ht|exact h3a|exact h3b|decide|omega
 refine⟨(adv q5,cs,as'++[⟨x,numW t 0⟩],M),⟨a6,g2,λg hg=>g3 g (List.mem_cons_of_mem _ hg),by simp only[List.length_append,length_cons,length_nil]at g4 ⊢;omega⟩,Nat.lt_succ_self _,CJ (t:=⟨[(2,true,.one (.p 2 0 0)),(8,true,.one (.p 28 0 0)),(9,true,.one (.p 9 0 0))],[(2,.vec 0 z2 [[cNr,cNr]]),(28,.vec 0 zPr [(adv q5).c]),(9,.vec 0 z2 [[.s 1000,.s 145]]),(1000,.vec 0 zSr (cs.map sR1)),(145,.vec 0 zGc ((as'++[(⟨x,numW t 0⟩:Gy)]).map Gy.cc))]⟩) ?_ ?_⟩
 .refine A4 [] ?_;simp only[seval,go_sem,zSr,zGc,Gy.cc,CG.fn,ME.fn,map_append,List.flatMap_append]
 refine A4 [.mv 145 1001] ?_;simp only[seval,go_sem,zSr,zGc,CG.mv,CG.fn,ME.mv,ME.fn]
theorem A2j(v:SV)(a b:Gl)(h:leV v (.agg a.cc))(h':leV v (.agg b.cc)):a=b:=by
 cases v with
 |one c=>exact h.elim
 |tup l=>exact h.elim
 |agg l=>
 obtain⟨cs,as'⟩:=a
 obtain⟨cs2,as2⟩:=b
 match l,h,h' with
 |[c0,c1],⟨h0,h1,_⟩,⟨g0,g1,_⟩=>
  have k1:=Ac Ps (G7 h0 g0)
  have k2:=Ac Pt (G7 h1 g1)
  simp only at k1 k2
  subst k1;subst k2;rfl
noncomputable def cGl:Cod Gl:=Hh (λg=>.agg g.cc) A2j (λg=>rfl)
theorem M2(g:Gl):cGl.e g= .agg g.cc:=rfl
theorem M3(cs:List (List UInt8))(as':List Gy):cGl.d (.agg [.d (.sl Gf (cs.map cSd)),.d (.sl Gw (as'.map Gy.r))])=some ⟨cs,as'⟩:=ED (e:=λg:Gl=>.agg g.cc) (a:=⟨cs,as'⟩) (FA _)
def Gl.ns(g:Gl):List (List UInt8):=g.c++g.a.map Gy.s
def Sl(l:List (List UInt8)):Prop:=∀i j,j<i->i<l.length->(l.getD j []==l.getD i [])=false
theorem xM(l:List (List UInt8)):(l.map cSd).map (λr=>r.map oD)=l.map sR1:=by simp[cSd,oD,sR1]
theorem gv(l:List (List UInt8)):Bj (l.map sR1):=by
 intro r h c hc
 obtain⟨x,_,rfl⟩:=List.mem_map.1 h
 rw[mem_singleton.1 hc];rfl
theorem px{l:List (List UInt8)}{i:Nat}(h:i<l.length)(z:List C):(l.map sR1).getD i z=[.v (.string (bs (l.getD i [])))]:=by simp[List.getD,h,sR1]
abbrev lw(g:Gl):Prop:=g.c.length<=5000/\g.a.length<=5000/\Sl g.ns
abbrev UC(g:Gl):SV:=.one (.v (.int .i64 0))
noncomputable abbrev UD:ArgC ((Gl)×Unit):=(acS (cGl) ac0)
abbrev lx:Prop:=Cu Tryz.prog 41 UD (λp:(Gl)×Unit=>lw p.1) (λp:(Gl)×Unit=>UC p.1)
attribute [local go_sem] Gl.cc M3 M2 sR1
theorem rZ:lx:=by
 rintro ⟨g,_u⟩ w fz xs hc hfz hl hx
 refine Bu Tryz.func41 rfl w fz [] [] UD (λp:(Gl)×Unit=>UC p.1) _ xs hfz hl hx (jN rfl) ?_
 clear hx hl hfz xs
 simp only[Tryz.f41]
 obtain⟨pc,pa⟩:=g
 obtain⟨h1,h2,h3⟩:=hc
 dsimp only at h1 h2
 have hst:=gv pc
 have hcs:=xM pc
 simp only[seval,go_sem,CG.fn,CG.mv]
 refine⟨⟨λq h=>by cases h;rfl,by rw[hcs];exact hst,by omega,by omega⟩,?_⟩
 refine AK (Y:=Nat) (λi=>i<=pa.length)
  (λi=>⟨[(1,true,.one (.p 1 0 0)),(2,true,.one (.v (.int .i64 0))),(3,true,.one (.s 1000)),(4,true,.one (.v (.int .i64 (i:Int))))],
   [(1,.vec 0 [.v (.bool false),.v (.bool false)] [[.d (.sl Gf (pc.map cSd)),.d (.sl Gw (pa.map Gy.r))]]),(1000,.vec 0 zSr ((pc++(pa.take i).map Gy.s).map sR1))]⟩)
  (λi=>pa.length-i) 0 (Nat.zero_le _) ?_ ?_
 .refine A4 [.mv 9 1000] ?_;simp only[seval,go_sem,CG.fn,CG.mv,hcs,zSr]
 rintro i hi
 refine AZ [] [] _ _ _ ?_
 have w1:IntKind.i64.wrap ((i:Int)+1)=((i+1:Nat):Int):=by rw[wrap_i64 (by omega) (by omega)];rfl
 cases hx:pa[i]? with
 |none=>
  have g2:=List.getElem?_eq_none_iff.1 hx
  have g1:=B9 g2
  simp only[seval,go_sem,CG.fn,CG.mv,g1]
  rw[List.take_of_length_le g2]
  obtain⟨L,hL⟩:∃L,pc++pa.map Gy.s=L:=⟨_,rfl⟩
  have hln:L.length<=10000:=by rw[<- hL];simp;omega
  have h3':Sl L:=by rw[<- hL];exact h3
  rw[hL]
  refine AK (Y:=Nat) (λi=>i<=L.length)
   (λi=>⟨[(2,true,.one (.v (.int .i64 0))),(3,true,.one (.s 1000)),(5,true,.one (.v (.int .i64 (i:Int))))],[(1000,.vec 0 zSr (L.map sR1))]⟩)
   (λi=>L.length-i) 0 (Nat.zero_le _) ?_ ?_
  .refine A4 [] ?_;simp only[seval,go_sem,CG.fn,CG.mv,zSr]
  rintro j hj
  refine AZ [] [] _ _ _ ?_
  have w2:IntKind.i64.wrap ((j:Int)+1)=((j+1:Nat):Int):=by rw[wrap_i64 (by omega) (by omega)];rfl
  by_cases hjl:j<L.length
  .have k1:=B8 hjl
   have hjt:=px hjl
   simp only[seval,go_sem,CG.fn,CG.mv,k1]
   refine AK (Y:=Nat) (λk=>k<=j)
    (λk=>⟨[(2,true,.one (.v (.int .i64 0))),(3,true,.one (.s 1000)),(5,true,.one (.v (.int .i64 (j:Int)))),(6,true,.one (.v (.int .i64 (k:Int))))],[(1000,.vec 0 zSr (L.map sR1))]⟩)
    (λk=>j-k) 0 (Nat.zero_le _) ?_ ?_
   .refine A4 [] ?_;simp only[seval,go_sem,CG.fn,CG.mv,zSr]
   rintro k hk
   refine AZ [] [] _ _ _ ?_
   have w3:IntKind.i64.wrap ((k:Int)+1)=((k+1:Nat):Int):=by rw[wrap_i64 (by omega) (by omega)];rfl
   by_cases hkj:k<j
   .have q1:=B8 hkj
    have hkt:=px (show k<L.length by omega)
    have hne:=h3' j k hkj hjl
    simp only[seval,go_sem,CG.fn,CG.mv,q1,hjt,hkt,hne,w3,zSr]
    refine⟨(by omega),(by omega),(by omega),hjl,CH (by kernel_rfl),k+1,hkj,(by omega),?_⟩
    refine A4 [] ?_;simp only[seval,go_sem,CG.fn,CG.mv,zSr]
   have q1:=B9 (Nat.le_of_not_lt hkj)
   simp only[seval,go_sem,CG.fn,CG.mv,q1,w2]
   refine⟨j+1,hjl,(by omega),?_⟩
   refine A4 [] ?_;simp only[seval,go_sem,CG.fn,CG.mv,zSr]
  have k1:=B9 (Nat.le_of_not_lt hjl)
  simp only[seval,go_sem,CG.fn,CG.mv,k1]
  try simp only[A2,A3]
  repeat' first|exact ck|with_reducible apply And.intro|intro _
  all_goals first|exact trivial|exact KZ|(refine A1 [] ?_;simp only[seval,go_sem,bne,UC,CG.fn,CG.mv])
 |some y=>
 have hlt:=(List.getElem?_eq_some_iff.1 hx).1
 have g1:=B8 hlt
 obtain⟨ys,yn⟩:=y
 have hs:∀z,(pa.map Gy.r).getD i z=[.v (.string (bs ys)),.v (.int .i64 yn)]:=by intro z;simp[List.getD,hx,Gy.r]
 simp only[seval,go_sem,CG.fn,CG.mv,g1,w1,hs]
 have hil:(i:Int)<(pa.length:Int):=by omega
 have hln:(pc++List.map Gy.s (List.take i pa)).length=pc.length+i:=by simp;omega
 have ht:(pc++(pa.take (i+1)).map Gy.s).map sR1=(pc++(pa.take i).map Gy.s).map sR1++[[.v (.string (bs ys))]]:=by
  rw[List.take_add_one,hx];simp[sR1]
 have hrs:Bj [[C.v (Value.string (bs ys))]]:=gv [ys]
 refine⟨⟨hil,rfl⟩,⟨⟨rfl,.inl rfl⟩,(λq h=>by cases h;rfl),hrs,(by decide),(by rw[hln];omega),(by rw[hln];omega)⟩,i+1,hlt,(by omega),CJ (t:=⟨[(1,true,.one (.p 1 0 0)),(2,true,.one (.v (.int .i64 0))),(3,true,.one (.s 25)),(4,true,.one (.v (.int .i64 ((i+1:Nat):Int))))],
  [(1,.vec 0 [.v (.bool false),.v (.bool false)] [[.d (.sl Gf (pc.map cSd)),.d (.sl Gw (pa.map Gy.r))]]),(25,.vec 0 zSr ((pc++(pa.take (i+1)).map Gy.s).map sR1))]⟩) ?_ ?_⟩
 .refine A4 [] ?_;simp only[seval,go_sem,CG.fn,CG.mv,zSr,ht,map_append,List.flatMap_append]
 refine A4 [.mv 25 1000] ?_;simp only[seval,go_sem,CG.fn,CG.mv,zSr]
noncomputable def HS{X:Ctx}{w0:World}:Sy.Spec Tryz.prog X w0:=E2 41 Tryz.call41 UD _ _ KF4 rZ
def WL:List UInt8:=[99,101,108,108,32,99,59,32,99,101,108,108,32,100,59,32,97,114,114,97,121,32,116,91,52,93,59,32,97,114,114,97,121,32,117,91,49,93,59]
def ly:List Gi:=[.c [99],.c [100],.a [116] [52],.a [117] [49]]
theorem A6c:rxT WL=([⟨0,[99,101,108,108],0⟩,⟨0,[99],5⟩,⟨2,[59],6⟩,⟨0,[99,101,108,108],8⟩,⟨0,[100],13⟩,⟨2,[59],14⟩,⟨0,[97,114,114,97,121],16⟩,⟨0,[116],22⟩,⟨2,[91],23⟩,⟨1,[52],24⟩,⟨2,[93],25⟩,⟨2,[59],26⟩,⟨0,[97,114,114,97,121],28⟩,⟨0,[117],34⟩,⟨2,[91],35⟩,⟨1,[49],36⟩,⟨2,[93],37⟩,⟨2,[59],38⟩],0,0):=by kernel_rfl
def WM:List UInt8:=[99,101,108,108,32,99,59,32,97,114,114,97,121,32,116,91,50,93,59]
def lz:List Gi:=[.c [99],.a [116] [50]]
theorem A6d:rxT WM=([⟨0,[99,101,108,108],0⟩,⟨0,[99],5⟩,⟨2,[59],6⟩,⟨0,[97,114,114,97,121],8⟩,⟨0,[116],14⟩,⟨2,[91],15⟩,⟨1,[50],16⟩,⟨2,[93],17⟩,⟨2,[59],18⟩],0,0):=by kernel_rfl
def WN:List UInt8:=[]
def m6:List Gi:=[]
theorem A6e:rxT WN=([],0,0):=by kernel_rfl
def WO:List UInt8:=[99,101,108,108,32,99,59,32,99,101,108,108,32,100,59,32,99,101,108,108,32,101,59,32,97,114,114,97,121,32,116,91,57,93,59]
def m7:List Gi:=[.c [99],.c [100],.c [101],.a [116] [57]]
theorem A6f:rxT WO=([⟨0,[99,101,108,108],0⟩,⟨0,[99],5⟩,⟨2,[59],6⟩,⟨0,[99,101,108,108],8⟩,⟨0,[100],13⟩,⟨2,[59],14⟩,⟨0,[99,101,108,108],16⟩,⟨0,[101],21⟩,⟨2,[59],22⟩,⟨0,[97,114,114,97,121],24⟩,⟨0,[116],30⟩,⟨2,[91],31⟩,⟨1,[57],32⟩,⟨2,[93],33⟩,⟨2,[59],34⟩],0,0):=by kernel_rfl
def WP:List UInt8:=[99,101,108,108,32,100,59,32,97,114,114,97,121,32,117,91,51,93,59]
def m8:List Gi:=[.c [100],.a [117] [51]]
theorem A6g:rxT WP=([⟨0,[99,101,108,108],0⟩,⟨0,[100],5⟩,⟨2,[59],6⟩,⟨0,[97,114,114,97,121],8⟩,⟨0,[117],14⟩,⟨2,[91],15⟩,⟨1,[51],16⟩,⟨2,[93],17⟩,⟨2,[59],18⟩],0,0):=by kernel_rfl
theorem Mp:∀x∈([[99],[100],[101],[116],[117]]:List (List UInt8)),KE x=false:=by decide
structure glO(s:List UInt8)(L:List Gi):Prop where
 sm:Dr s
 o:∀g∈L,g.ok
 n:L.length<=19
 t:∃T,rxT s=(T,0,0)/\T.map kt=giK L
theorem A2k:glO WL ly:=by
 refine⟨by have e:WL.length=39:=rfl;unfold Dr;omega,?_,by decide,_,A6c,rfl⟩
 intro g hg
 simp only[ly,mem_cons,not_mem_nil,or_false]at hg
 rcases hg with rfl|rfl|rfl|rfl
 all_goals first|exact Mp _ (by decide)|exact⟨Mp _ (by decide),by unfold Dr;simp only[length_cons,length_nil];omega,by decide,by decide⟩
theorem A2l:glO WM lz:=by
 refine⟨by have e:WM.length=19:=rfl;unfold Dr;omega,?_,by decide,_,A6d,rfl⟩
 intro g hg
 simp only[lz,mem_cons,not_mem_nil,or_false]at hg
 rcases hg with rfl|rfl
 all_goals first|exact Mp _ (by decide)|exact⟨Mp _ (by decide),by unfold Dr;simp only[length_cons,length_nil];omega,by decide,by decide⟩
theorem A2m:glO WN m6:=by
 refine⟨by have e:WN.length=0:=rfl;unfold Dr;omega,?_,by decide,_,A6e,rfl⟩
 intro g hg
 simp only[m6,mem_cons,not_mem_nil,or_false]at hg
theorem A2n:glO WO m7:=by
 refine⟨by have e:WO.length=35:=rfl;unfold Dr;omega,?_,by decide,_,A6f,rfl⟩
 intro g hg
 simp only[m7,mem_cons,not_mem_nil,or_false]at hg
 rcases hg with rfl|rfl|rfl|rfl
 all_goals first|exact Mp _ (by decide)|exact⟨Mp _ (by decide),by unfold Dr;simp only[length_cons,length_nil];omega,by decide,by decide⟩
theorem A2o:glO WP m8:=by
 refine⟨by have e:WP.length=19:=rfl;unfold Dr;omega,?_,by decide,_,A6g,rfl⟩
 intro g hg
 simp only[m8,mem_cons,not_mem_nil,or_false]at hg
 rcases hg with rfl|rfl
 all_goals first|exact Mp _ (by decide)|exact⟨Mp _ (by decide),by unfold Dr;simp only[length_cons,length_nil];omega,by decide,by decide⟩
def glS(g:Int):List UInt8:=if (g.tmod 5==0)=true then WL else if (g.tmod 5==1)=true then WM else if (g.tmod 5==2)=true then WN else if (g.tmod 5==3)=true then WO else WP
def glLs(g:Int):List Gi:=if (g.tmod 5==0)=true then ly else if (g.tmod 5==1)=true then lz else if (g.tmod 5==2)=true then m6 else if (g.tmod 5==3)=true then m7 else m8
theorem A2p(g:Int):glO (glS g) (glLs g):=by
 unfold glS glLs
 by_cases h0:(g.tmod 5==0)=true
 .rw[if_pos h0,if_pos h0];exact A2k
 rw[if_neg h0,if_neg h0]
 by_cases h1:(g.tmod 5==1)=true
 .rw[if_pos h1,if_pos h1];exact A2l
 rw[if_neg h1,if_neg h1]
 by_cases h2:(g.tmod 5==2)=true
 .rw[if_pos h2,if_pos h2];exact A2m
 rw[if_neg h2,if_neg h2]
 by_cases h3:(g.tmod 5==3)=true
 .rw[if_pos h3,if_pos h3];exact A2n
 rw[if_neg h3,if_neg h3];exact A2o
end Go.Proofs.YtapedeoheilnnaaGreat
