/- One more of a list; functions, walked. No conditions but those in each statement. -/
import Derived.Test.YtapedeoheilnnaaGreatPa7
import Derived.Test.YtapedeoheilnnaaGreatSy36
set_option linter.all false
set_option maxRecDepth 20000
set_option maxHeartbeats 16000000
namespace Go.Proofs.YtapedeoheilnnaaGreat
open Go Go.Sy Go.RowKit
theorem p7{P:Prop}(h:P:=by
 simp only[seval,go_sem,AV,Bb,A7,AO,AN,AB,AG,AJ,A6,Av,Au,Aw,Al,Tok.r,Ao,ptR,As,AR,AQ,AS,FI,FJ,Cf,hb,zVc]
 repeat refine AX ?_
 refine⟨_,rfl,?_⟩
 rw[e1]
 refine A2 [] ?_;simp only[seval,go_sem,zVc,Dd.fn,smS]):P:=h
theorem AAB{P:Prop}(h:P:=by refine A2 [] ?_;simp only[seval,go_sem,zVc,Dd.fn]):P:=h
noncomputable def mVr:RowM Vr:=MP zVc Vr.c Dd.nm
theorem FI:mVr.z=zVc:=rfl
theorem FJ:mVr.e=Vr.c:=rfl
theorem tX(a b:Vr)(h:a.c=b.c):a=b:=by
 obtain⟨x,no⟩:=a
 obtain⟨x',no'⟩:=b
 simp only[Vr.c,List.cons.injEq,C.v.injEq,Value.bool.injEq,Value.string.injEq,true_and,and_true]at h
 rw[bs_inj h.1,h.2]
theorem TI:∀l:List Vr,Ph mVr.d (l.map Vr.c)=some l
 |[]=>rfl
 |a::l=>by
  have h:mVr.d a.c=some a:=JG tX a
  simp only[List.map_cons,Ph,h,TI l]
theorem tY(p:Pr)(l:List Vr):∀q,some q∈[some ((zPr,[p.c]):MV),none,some ((zVc,l.map Vr.c):MV)]->∀r∈q.2,∀c∈r,c.names=[]:=by
 intro q hq r hr c hc
 simp only[List.mem_cons,List.not_mem_nil,or_false,jS,reduceCtorEq,false_or]at hq
 rcases hq with rfl|rfl
 .simp only[List.mem_singleton]at hr;subst hr;exact WP p c hc
 obtain⟨v,_,rfl⟩:=List.mem_map.1 hr
 exact Dd.nm v c hc
abbrev tZ(p:Pr)(l:List Vr)(ptr:Bool)(most:Int):Prop:=okP p/\l.length<=4096
abbrev TJ(p:Pr)(l:List Vr)(ptr:Bool)(most:Int):SV:=.one (.s 2)
abbrev TK(p:Pr)(l:List Vr)(ptr:Bool)(most:Int):List (Option MV):=[some (zPr,[(Ga l most p).c]),none,some (zVc,(J4 l ptr most p).map Vr.c)]
noncomputable abbrev NU:ArgM ((Pr)×(List Vr)×(Bool)×(Int)×Unit):=(amP (mPr) (amS (mVr) (amD (gx) (amD (cInt .i64) am0))))
abbrev tb:Prop:=C7 Tryz.prog 63 ((NU).args 0) (NU).mem (λp:(Pr)×(List Vr)×(Bool)×(Int)×Unit=>tZ p.1 p.2.1 p.2.2.1 p.2.2.2.1) (λp:(Pr)×(List Vr)×(Bool)×(Int)×Unit=>TJ p.1 p.2.1 p.2.2.1 p.2.2.2.1) (λp:(Pr)×(List Vr)×(Bool)×(Int)×Unit=>TK p.1 p.2.1 p.2.2.1 p.2.2.2.1)
attribute [local go_sem] Pr.c zTk
attribute[local go_sem] Tok.r Ao Aw AR Av Au FJ FI AS ptR As AQ Al AB AV AJ A7 AN A6 AG Bb AO in
theorem yp:tb:=by
 rintro ⟨p,l,ptr,most,_u⟩ w M I lab fz xs hc hA hl hx
 refine Ac Tryz.func63 rfl ((NU).mem ⟨p,l,ptr,most,_u⟩) w M I lab fz [A7,AB,AJ] [] ((NU).args 0 ⟨p,l,ptr,most,_u⟩) ((λp:(Pr)×(List Vr)×(Bool)×(Int)×Unit=>TK p.1 p.2.1 p.2.2.1 p.2.2.2.1) ⟨p,l,ptr,most,_u⟩) ((λp:(Pr)×(List Vr)×(Bool)×(Int)×Unit=>TJ p.1 p.2.1 p.2.2.1 p.2.2.2.1) ⟨p,l,ptr,most,_u⟩) xs hA hl hx (λv hv k hk=>by have:=(NU).an 0 ⟨p,l,ptr,most,_u⟩ v hv k hk;omega) (jN rfl) (jN rfl) ?_
 clear hx hl hA xs
 simp only[Tryz.f63]
 obtain⟨hc1,hc2⟩:=hc
 dsimp only at hc1 hc2
 have hI:=hc1.i
 cases hb:Zt l most p with
 |true=>
  have hr1:J4 l ptr most p=l:=by unfold J4;rw[if_pos hb]
  have hr2:Ga l most p=DK 53 p:=by unfold Ga;rw[if_pos hb]
  simp only[Zt]at hb
  simp only[seval,go_sem,hb]
  repeat refine AX ?_
  refine A1 [.mv 1 2] ?_;simp only[seval,go_sem,bne,TJ,TK,hr1,hr2,Dd.mv,Dd.fn]
 |false=>
 have hr1:J4 l ptr most p=l++[⟨E3 p,ptr⟩]:=by unfold J4;rw[if_neg (by rw[hb];decide)]
 have hr2:Ga l most p=CI p:=by unfold Ga;rw[if_neg (by rw[hb];decide)]
 simp only[Zt]at hb
 simp only[seval,go_sem,hb,zVc,Dd.fn]
 repeat refine AX ?_
 refine A1 [.mv 26 2] ?_;simp only[seval,go_sem,bne,TJ,TK,hr1,hr2,Dd.mv,Dd.fn,List.map_append,List.flatMap_append,Vr.c,zVc]
noncomputable def Cf{X:Ctx}{w0:World}:Sy.Spec Tryz.prog X w0:=D0 63 Tryz.call63 (NU) _ _ _ KF1 KF0 (id (by intro p _;exact tY _ _)) yp
noncomputable def ypTok{X:Ctx}{w0:World}:Sy.Spec Tryz.prog X w0:=Dq 56 Tryz.call56 (acS cStr ac0) (λp=>E1 p.1) (λp=>.tup [.inl (.d (.sl zTk ((rxT p.1).1.map Tok.r))),.inl (.v (.int .i64 (rxT p.1).2.1)),.inl (.v (.int .i64 (rxT p.1).2.2))]) (by intro p;rfl) sf
abbrev z4r:List C:=[.v (.bool false),.v (.bool false),.v (.bool false),.v (.bool false)]
abbrev cNr:C:=.v (.slice none 0 0)
abbrev fSt(nm c1 c2 c3:C)(q:Pr)(se:List (Nat×Bool×SV))(ex:List (Nat×Ch)):St:=⟨(2,true,.one (.p 2 0 0))::(8,true,.one (.p 26 0 0))::(9,true,.one (.p 9 0 0))::se,(2,.vec 0 z4r [[.v (.string (bs [])),cNr,cNr,cNr]])::(9,.vec 0 z4r [[nm,c1,c2,c3]])::(26,.vec 0 zPr [q.c])::ex⟩
abbrev te(s:List UInt8):Prop:=E1 s
abbrev Q4(s:List UInt8):SV:=.tup [.inr (Fp s).1.c,.inl (.v (.int .i64 (Fp s).2.1)),.inl (.v (.int .i64 (Fp s).2.2))]
theorem yq:Ca Tryz.prog 42 (acS (cStr) ac0) (λp:(List UInt8×Unit)=>te p.1) (λp:(List UInt8×Unit)=>Q4 p.1):=by
 rintro ⟨s,_u⟩ w fz xs hc hfz hl hx
 refine fY Tryz.func42 rfl w fz (acS (cStr) ac0) (λp:(List UInt8×Unit)=>Q4 p.1) _ xs hfz hl hx (jN rfl) ?_
 clear hx hl hfz xs
 simp only[Tryz.f42]
 have hs:E1 s:=hc
 have hok:=fX s (s.length:Int)
 refine HZ [ypTok] [] ?_
 simp only[seval,go_sem]
 refine HZ [ypTok] [] ?_
 simp only[seval,go_sem,ypTok,Av,Au,Aw,Al,Tok.r,Ao,ptR,As,AR,AQ,AS,FI,FJ]
 refine⟨hs,?_⟩
 refine HZ [ypTok] [] ?_
 simp only[seval,go_sem,Av,Au,Aw,Al,Tok.r,Ao,ptR,As,AR,AQ,AS,FI,FJ]
 simp only[AD,AE]
 refine⟨λhe=>?_,λhe=>?_⟩
 .have hr:Fp s=(fn0,(rxT s).2.1,(rxT s).2.2):=by unfold Fp;rw[if_pos he]
  refine A1 [] ?_;simp only[seval,go_sem,bne,Q4,hr,Fn.c]
 have hr0:Fp s=if (fp6 (rxT s).1 (s.length:Int)).e != 0 then (fn0,(fp6 (rxT s).1 (s.length:Int)).at',(fp6 (rxT s).1 (s.length:Int)).e) else (⟨E3 (hdP (rxT s).1 (s.length:Int)),(fp3 (rxT s).1 (s.length:Int)).1,(fp4 (rxT s).1 (s.length:Int)).1,(fp5 (rxT s).1 (s.length:Int)).1⟩,0,0):=by
  unfold Fp;rw[if_neg (by rw[he];decide)]
 have h1:=jE s (s.length:Int)
 have h2:=h1.trans (Fl h1.ok)
 have h3:=Zu s (s.length:Int)
 generalize hT:(rxT s).1=T at hok hr0 h1 h2 h3
 generalize hn:(s.length:Int)=N at hok hr0 h1 h2 h3
 refine HZ [A6,AG,AJ,AV,A7,AN,AB,Cf,JC] [] ?_
 simp only[seval,go_sem,AV,Bb,A7,AO,AN,AB,AG,AJ,A6,Av,Au,Aw,Al,Tok.r,Ao,ptR,As,AR,AQ,AS,FI,FJ,Cf,hn]
 refine HZ [A6,AG,AJ,AV,A7,AN,AB,Cf,JC] [] ?_
 simp only[seval,go_sem,AV,Bb,A7,AO,AN,AB,AG,AJ,A6,Av,Au,Aw,Al,Tok.r,Ao,ptR,As,AR,AQ,AS,FI,FJ,Cf]
 refine HZ [A6,AG,AJ,AV,A7,AN,AB,Cf,JC] [] ?_
 simp only[seval,go_sem,AV,Bb,A7,AO,AN,AB,AG,AJ,A6,Av,Au,Aw,Al,Tok.r,Ao,ptR,As,AR,AQ,AS,FI,FJ,Cf]
 refine⟨hok,?_⟩
 refine HZ [A6,AG,AJ,AV,A7,AN,AB,Cf,JC] [] ?_
 simp only[seval,go_sem,AV,Bb,A7,AO,AN,AB,AG,AJ,A6,Av,Au,Aw,Al,Tok.r,Ao,ptR,As,AR,AQ,AS,FI,FJ,Cf]
 refine⟨h1.ok,?_⟩
 refine HZ [A6,AG,AJ,AV,A7,AN,AB,Cf,JC] [] ?_
 simp only[seval,go_sem,AV,Bb,A7,AO,AN,AB,AG,AJ,A6,Av,Au,Aw,Al,Tok.r,Ao,ptR,As,AR,AQ,AS,FI,FJ,Cf]
 refine⟨h2.ok,?_⟩
 refine TH (Y:=List Vr×Pr) (λy=>y=fp3 T N) (λy=>fSt (.v (.string (bs (E3 (hdP T N))))) (.s 1000) cNr cNr y.2 [] [(1000,.vec 0 zVc (y.1.map Vr.c))]) [A6,AG,AJ,AV,A7,AN,AB,Cf,JC] [] ?_ ?_
 .cases i0:isT [41] (hd2 T N) with
  |true=>
   have j0:=i0
   simp only[hd2,hdP,p0]at j0
   simp only[seval,go_sem,AV,Bb,A7,AO,AN,AB,AG,AJ,A6,Av,Au,Aw,Al,Tok.r,Ao,ptR,As,AR,AQ,AS,FI,FJ,Cf,Bt,j0,adv]
   refine⟨h3.ok,([],adv (hd2 T N)),by simp[fp3,Ua,i0],?_⟩
   refine A2 [.nilr 9 0 1 1000 zVc] ?_;simp only[seval,go_sem,zVc,hd2,hdP,p0,adv]
  |false=>
  have j0:=i0
  simp only[hd2,hdP,p0]at j0
  simp only[seval,go_sem,AV,Bb,A7,AO,AN,AB,AG,AJ,A6,Av,Au,Aw,Al,Tok.r,Ao,ptR,As,AR,AQ,AS,FI,FJ,Cf,Bt,j0]
  refine⟨h3.ok,?_⟩
  refine AC (Y:=Nat×List Vr×Pr) (λy=>okP y.2.2/\(y.2.2.e=0->(y.2.2.l.length:Int)+1<=y.2.2.i+(y.1:Int))/\(y.2.2.e=0->(y.2.1.length:Int)<=y.2.2.i)/\R6 y.1 y.2.1 y.2.2=fp3 T N)
   (λy=>fSt (.v (.string (bs (E3 (hdP T N))))) (.s 1000) cNr cNr y.2.2 [] [(1000,.vec 0 zVc (y.2.1.map Vr.c))])
   (λy=>y.1) ((hd2 T N).l.length+1,[],hd2 T N) ⟨h3.ok,λ_=>by have:=h3.ok.1;simp only;omega,λ_=>by simpa using h3.ok.1,by simp[fp3,Ua,i0]⟩ ?_ ?_
  .refine A2 [.nilr 9 0 1 1000 zVc] ?_;simp only[seval,go_sem,zVc,hd2,hdP,p0]
  rintro ⟨k,l,q⟩ ⟨g1,g2,g3,g4⟩
  refine AP [A6,AG,AJ,AV,A7,AN,AB,Cf,JC] [] _ _ _ ?_
  dsimp only at g1 g2 g3 g4
  cases he:(q.e==0) with
  |false=>
   have hr2:(l,q)=fp3 T N:=by rw[<- g4];cases k<;>simp[R6,he]
   simp only[seval,go_sem,AV,Bb,A7,AO,AN,AB,AG,AJ,A6,Av,Au,Aw,Al,Tok.r,Ao,ptR,As,AR,AQ,AS,FI,FJ,Cf,he]
   refine⟨(l,q),hr2,?_⟩
   exact AAB
  |true=>
  have he0:q.e=0:=by simpa using he
  obtain⟨k',rfl⟩:∃k',k=k'+1:=⟨k-1,by have:=g2 he0;have:=g1.2.1;omega⟩
  simp only[R6,he,if_true]at g4
  have ht:=ie (t:=[42]) g1
  have hm:=ht.trans (SI (l:=l) (most:=6) ht.ok)
  have hle:l.length<=4096:=by have:=g3 he0;have:=g1.2.1;have:=g1.2.2.1;omega
  have hml:=R5 l (isT [42] q) 6 (Bt [42] q)
  cases it:isT [41] (Ga l 6 (Bt [42] q)) with
  |true=>
   rw[if_pos it]at g4
   have e41:Bt [41] (Ga l 6 (Bt [42] q))=adv (Ga l 6 (Bt [42] q)):=ii it
   simp only[seval,go_sem,AV,Bb,A7,AO,AN,AB,AG,AJ,A6,Av,Au,Aw,Al,Tok.r,Ao,ptR,As,AR,AQ,AS,FI,FJ,Cf,he,it,zVc,TI,e41]
   have:=ht.ok;have:=hm.ok;repeat refine AX ?_
   refine⟨(J4 l (isT [42] q) 6 (Bt [42] q),adv (Ga l 6 (Bt [42] q))),g4,BU (t:=fSt (.v (.string (bs (E3 (hdP T N))))) (.s 47) cNr cNr (adv (Ga l 6 (Bt [42] q))) [] [(47,.vec 0 zVc ((J4 l (isT [42] q) 6 (Bt [42] q)).map Vr.c))]) ?_ ?_⟩
   .refine A2 [] ?_;simp only[seval,go_sem,zVc,Dd.fn,adv]
   refine A2 [.mv 47 1000] ?_;simp only[seval,go_sem,zVc,Dd.fn,Dd.mv]
  |false=>
  rw[if_neg (by rw[it];decide)]at g4
  have hw:=Ak (t:=[44]) hm.ok
  have e41:Bt [41] (Ga l 6 (Bt [42] q))=Ga l 6 (Bt [42] q):=ij it
  simp only[seval,go_sem,AV,Bb,A7,AO,AN,AB,AG,AJ,A6,Av,Au,Aw,Al,Tok.r,Ao,ptR,As,AR,AQ,AS,FI,FJ,Cf,he,it,zVc,TI,e41]
  have:=ht.ok;have:=hm.ok;repeat refine AX ?_
  refine⟨(k',J4 l (isT [42] q) 6 (Bt [42] q),Bd [44] (Ga l 6 (Bt [42] q))),⟨hw.ok,?_,?_,g4⟩,Nat.lt_succ_self _,BU (t:=fSt (.v (.string (bs (E3 (hdP T N))))) (.s 47) cNr cNr (Bd [44] (Ga l 6 (Bt [42] q))) [] [(47,.vec 0 zVc ((J4 l (isT [42] q) 6 (Bt [42] q)).map Vr.c))]) ?_ ?_⟩
  .exact λhw0=>by have h5:=g2 he0;have hi1:=hm.i;have e:=VK hm.ok hw0;dsimp only;rw[hw.l,hm.l];omega
  .exact λhw0=>by have h5:=g3 he0;have hi1:=hm.i;have e:=VK hm.ok hw0;dsimp only;omega
  .exact AAB
  refine A2 [.mv 47 1000] ?_;simp only[seval,go_sem,zVc,Dd.fn,Dd.mv]
 rintro ⟨ps,q⟩ hy
 obtain⟨hps,hq⟩:ps=(fp3 T N).1/\q=(fp3 T N).2:=⟨congrArg (·.1) hy,congrArg (·.2) hy⟩
 have hqk:okP q:=by rw[hq];exact(Wv h3.ok).ok
 have hqI:=hqk.i
 refine TH (Y:=Pr) (λy=>y=KW q) (λy=>fSt (.v (.string (bs (E3 (hdP T N))))) (.s 1000) cNr cNr y [] [(1000,.vec 0 zVc (ps.map Vr.c))]) [A6,AG,AJ,AV,A7,AN,AB,Cf,JC] [] ?_ ?_
 .cases i1:isT [123] q with
  |false=>
   have e1:KW q=DK 51 q:=by unfold KW;rw[if_neg (by rw[i1];decide)]
   simp only[seval,go_sem,AV,Bb,A7,AO,AN,AB,AG,AJ,A6,Av,Au,Aw,Al,Tok.r,Ao,ptR,As,AR,AQ,AS,FI,FJ,i1,zVc]
   repeat refine AX ?_
   refine⟨_,rfl,?_⟩
   rw[e1]
   exact AAB
  |true=>
  cases ob:Fh q with
  |false=>
   have e1:KW q=DK 51 (CO q):=by unfold KW;rw[if_pos i1,if_neg (by rw[ob];decide)]
   have ho:=(LA hqk ob).ok
   have hoI:=ho.i
   simp only[seval,go_sem,AV,Bb,A7,AO,AN,AB,AG,AJ,A6,Av,Au,Aw,Al,Tok.r,Ao,ptR,As,AR,AQ,AS,FI,FJ,i1,ob,zVc]
   repeat refine AX ?_
   refine⟨_,rfl,?_⟩
   rw[e1]
   exact AAB
  |true=>
  have e1:KW q=adv (CO q):=by unfold KW;rw[if_pos i1,if_pos ob]
  simp only[seval,go_sem,AV,Bb,A7,AO,AN,AB,AG,AJ,A6,Av,Au,Aw,Al,Tok.r,Ao,ptR,As,AR,AQ,AS,FI,FJ,i1,ob,zVc]
  repeat refine AX ?_
  refine⟨_,rfl,?_⟩
  rw[e1]
  refine A2 [] ?_;simp only[seval,go_sem,zVc,Dd.fn,adv]
 rintro q2 hq2
 have hk2:okP q2:=by
  rw[hq2];unfold KW
  split
  .rename_i hi
   split
   .rename_i hb;exact(Ef hqk hb (BA hi).2).ok
   rename_i hb;exact(FY 51 (LA hqk (by simpa using hb)).ok).ok
  exact(FY 51 hqk).ok
 refine TH (Y:=List Vr×Pr) (λy=>y=Wu q2) (λy=>fSt (.v (.string (bs (E3 (hdP T N))))) (.s 1000) (.s 1001) cNr y.2 [] [(1000,.vec 0 zVc (ps.map Vr.c)),(1001,.vec 0 zVc (y.1.map Vr.c))]) [A6,AG,AJ,AV,A7,AN,AB,Cf,JC] [] ?_ ?_
 .simp only[seval,go_sem,AV,Bb,A7,AO,AN,AB,AG,AJ,A6,Av,Au,Aw,Al,Tok.r,Ao,ptR,As,AR,AQ,AS,FI,FJ,zVc]
  refine AC (Y:=Nat×List Vr×Pr) (λy=>okP y.2.2/\((y.2.2.l.length:Int)<=y.2.2.i+(y.1:Int))/\((y.2.1.length:Int)<=y.2.2.i)/\PQ y.1 y.2.1 y.2.2=Wu q2)
    (λy=>fSt (.v (.string (bs (E3 (hdP T N))))) (.s 1000) (.s 1001) cNr y.2.2 [] [(1000,.vec 0 zVc (ps.map Vr.c)),(1001,.vec 0 zVc (y.2.1.map Vr.c))])
    (λy=>y.1) (q2.l.length,[],q2) ⟨hk2,by have:=hk2.1;simp only;omega,by simpa using hk2.1,rfl⟩ ?_ ?_
  .refine A2 [.nilr 9 0 2 1001 zVc] ?_;simp only[seval,go_sem,zVc,Dd.fn]
  rintro ⟨k,l,r⟩ ⟨g1,g2,g3,g4⟩
  refine AP [A6,AG,AJ,AV,A7,AN,AB,Cf,JC] [] _ _ _ ?_
  dsimp only at g1 g2 g3 g4
  have hrI:=g1.i
  cases hl:Wt r with
  |false=>
   have hr2:(l,r)=Wu q2:=by rw[<- g4];cases k<;>simp[PQ,hl]
   unfold Wt at hl
   simp only[seval,go_sem,AV,Bb,A7,AO,AN,AB,AG,AJ,A6,Av,Au,Aw,Al,Tok.r,Ao,ptR,As,AR,AQ,AS,FI,FJ,Cf,hl,zVc]
   repeat refine AX ?_
   refine⟨(l,r),hr2,?_⟩
   exact AAB
  |true=>
  have hlt:=(Vd hl).2
  have ha:=Ey g1 hlt (Vd hl).1
  have hai:=J9 g1 hlt
  obtain⟨k',rfl⟩:∃k',k=k'+1:=⟨k-1,by omega⟩
  simp only[PQ,hl,if_true]at g4
  have hm:=ha.trans (SI (l:=l) (most:=20) ha.ok)
  have hm2:=SI (l:=l) (most:=20) ha.ok
  have hle:l.length<=4096:=by have:=g1.2.1;have:=g1.2.2.1;omega
  have hml:=R5 l (isT tPtr r) 20 (adv r)
  have hw:=Ak (t:=[59]) hm.ok
  unfold Wt at hl
  simp only[seval,go_sem,AV,Bb,A7,AO,AN,AB,AG,AJ,A6,Av,Au,Aw,Al,Tok.r,Ao,ptR,As,AR,AQ,AS,FI,FJ,Cf,hl,zVc,TI]
  have:=ha.ok;have:=hm.ok;repeat refine AX ?_
  refine⟨(k',J4 l (isT tPtr r) 20 (adv r),Bd [59] (Ga l 20 (adv r))),⟨hw.ok,?_,?_,g4⟩,Nat.lt_succ_self _,BU (t:=fSt (.v (.string (bs (E3 (hdP T N))))) (.s 1000) (.s 87) cNr (Bd [59] (Ga l 20 (adv r))) [] [(1000,.vec 0 zVc (ps.map Vr.c)),(87,.vec 0 zVc ((J4 l (isT tPtr r) 20 (adv r)).map Vr.c))]) ?_ ?_⟩
  .have hi1:=hm2.i;have hi2:=hw.i;dsimp only;rw[hw.l,hm.l];omega
  .have hi1:=hm2.i;have hi2:=hw.i;dsimp only;omega
  .refine A2 [] ?_;simp only[seval,go_sem,zVc,Dd.fn,adv]
  refine A2 [.mv 87 1001] ?_;simp only[seval,go_sem,zVc,Dd.fn,Dd.mv]
 rintro ⟨ls,q3⟩ hy3
 have hk3:okP q3:=by
  have e:q3=(Wu q2).2:=congrArg (·.2) hy3
  rw[e];exact(TG _ _ _ hk2).ok
 have hd3:=K8 hk3
 have hb3:=YK (L9 41) hk3
 refine HZ [A6,AG,AJ,AV,A7,AN,AB,Cf,JC] [] ?_
 simp only[seval,go_sem,AV,Bb,A7,AO,AN,AB,AG,AJ,A6,Av,Au,Aw,Al,Tok.r,Ao,ptR,As,AR,AQ,AS,FI,FJ,Cf,RK,zVc]
 refine⟨⟨hk3,hd3⟩,?_⟩
 generalize hbd:stmtsW (Ce 41) q3=B at hb3
 obtain⟨bd,q4⟩:=B
 dsimp only at hb3 ⊢
 have f4:fp4 T N=(ls,q3):=by unfold fp4;rw[<- hq,<- hq2,<- hy3]
 have f5:fp5 T N=(bd,q4):=by unfold fp5;rw[f4];exact hbd
 have f6:fp6 T N=SJ q4:=by unfold fp6;rw[f5]
 have hk4:=hb3.ok
 have hI4:=hk4.i
 refine TH (Y:=Pr) (λy=>y=SJ q4) (λy=>fSt (.v (.string (bs (E3 (hdP T N))))) (.s 1000) (.s 1001) (smS bd) y [] [(1000,.vec 0 zVc (ps.map Vr.c)),(1001,.vec 0 zVc (ls.map Vr.c))]) [A6,AG,AJ,AV,A7,AN,AB,Cf,JC] [] ?_ ?_
 .cases hb:(q4.e==0&&decide (q4.i<(q4.l.length:Int))) with
  |true=>
   have e1:SJ q4=DK 51 q4:=by unfold SJ;rw[if_pos hb]
   exact p7
  |false=>
  have e1:SJ q4=q4:=by unfold SJ;rw[if_neg (by rw[hb];decide)]
  exact p7
 rintro q5 hq5
 rw[f6,<- hq5,f4,f5,<- hps]at hr0
 refine HZ [A6,AG,AJ,AV,A7,AN,AB,Cf,JC] [] ?_
 simp only[seval,go_sem,AV,Bb,A7,AO,AN,AB,AG,AJ,A6,Av,Au,Aw,Al,Tok.r,Ao,ptR,As,AR,AQ,AS,FI,FJ,Cf,zVc]
 simp only[AD,AE]
 refine⟨λhe5=>?_,λhe5=>?_⟩
 .have hr:Fp s=(fn0,q5.at',q5.e):=by rw[hr0,if_pos he5]
  repeat refine AX ?_
  refine A1 [] ?_;simp only[seval,go_sem,bne,Q4,hr,Fn.c]
 have hr:Fp s=(⟨E3 (hdP T N),ps,ls,bd⟩,0,0):=by rw[hr0,if_neg (by rw[he5];decide)]
 refine AP [A6,AG,AJ,AV,A7,AN,AB,Cf,JC] [] _ _ _ ?_
 simp only[seval,go_sem,AV,Bb,A7,AO,AN,AB,AG,AJ,A6,Av,Au,Aw,Al,Tok.r,Ao,ptR,As,AR,AQ,AS,FI,FJ,Cf,zVc]
 refine A1 [.fz 1000,.fz 1001] ?_;simp only[seval,go_sem,bne,Q4,hr,Fn.c,smS,Dd.ds,Dd.fz,zVc,zVr]
noncomputable def Gp{X:Ctx}{w0:World}:Sy.Spec Tryz.prog X w0:=Dq 42 Tryz.call42 (acS (cStr) ac0) _ _ KF8 yq
end Go.Proofs.YtapedeoheilnnaaGreat
