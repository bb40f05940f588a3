/- One statement, walked. No conditions but those in each statement. -/
import Derived.Test.YtapedeoheilnnaaGreatSo
import Derived.Test.YtapedeoheilnnaaGreatAt
import Derived.Test.YtapedeoheilnnaaGreatOp
set_option linter.all false
namespace Go.Proofs.YtapedeoheilnnaaGreat
open Go Go.Sy Go.RowKit
attribute [local go_sem] Pr.c Tok.r Ak Aq AP Ap Ao A4Q qg qf AQ ptR An AO Ah R7 Zy DH Dp Ij A9 AS AG A7 AL A6 JU AC BR AM zSc zTk
set_option maxRecDepth 20000 in set_option maxHeartbeats 16000000 in
theorem ss(f:Nat)(hu:NW f):NW (f+1):=by
 rintro ⟨p,_u⟩ w M I lab fz xs hc hA hl hx
 refine Aa Tryz.func79 rfl ((NU).mem ⟨p,_u⟩) w M I lab fz [AS,A7,A9,AC,AG,A6,Ij,JU,X5,A3u,(Zy f (uZ f hu))] [] ((NU).args 0 ⟨p,_u⟩) ((λp:(Pr)×Unit=>Gz (f+1) p.1) ⟨p,_u⟩) ((λp:(Pr)×Unit=>Gx (f+1) p.1) ⟨p,_u⟩) xs hA hl hx (λv hv k hk=>by have:=(NU).an 0 ⟨p,_u⟩ v hv k hk;omega) (jN rfl) (jN rfl) ?_
 clear hx hl hA xs
 simp only[Tryz.f79]
 obtain⟨hc1,hc2⟩:=hc
 dsimp only at hc1 hc2
 have hI:=hc1.i
 have hq:=PQ hc1
 have hqI:=hq.ok.i
 have hqd:=G6 hq hc2
 cases hk:(eT p&&decide (200<=p.n)) with
 |true=>
  have hr:CT (f+1) p=(sm0 p.n,D6 53 p):=by simp only[CT];rw[if_pos hk]
  simp only[eT]at hk
  simp only[seval,go_sem,↓D1,↓Dl,↓Dm,↓EQ,hk]
  try simp only[A2,A3]
  repeat' first|exact ck|with_reducible apply And.intro|intro _
  all_goals first|exact hI|exact hc1|exact KZ|(refine A1 [] ?_;simp only[seval,go_sem,bne,Gx,Gz,hr,arS,smS,↓D1,↓Dl,↓Dm,↓EQ,sm0,Sm.c,Sm.k,Sm.x,Sm.y,Sm.e,Sm.f,Sm.cd,Sm.ar,Sm.th,Sm.el,Sm.no,BQ,Bw,K7,ifB,ifC])
 |false=>
 have hr0:CT (f+1) p=HR (CT f) p.n (nxt p):=by simp only[CT];rw[if_neg (by rw[hk];decide)]
 simp only[eT]at hk
 cases i1:isT lm (nxt p) with
 |true=>
  have j1:=i1
  simp only[nxt]at j1
  have hr:CT (f+1) p=(.mk 9 [] [] (exS (adv (nxt p))).1 .nil .nil [] [] [] p.n,BW [59] (exS (adv (nxt p))).2):=by rw[hr0];simp[HR,i1]
  have ha:=Av hq.ok i1
  have hs:=Di ha.ok
  have hd:=K0 ha.ok
  simp only[seval,go_sem,↓D1,↓Dl,↓Dm,↓EQ,hk,j1,Bi,adv]
  try simp only[A2,A3]
  repeat' first|exact ck|with_reducible apply And.intro|intro _
  all_goals first|exact hI|exact hc1|exact hq.ok|exact hqI|exact hqd|exact ha.ok|exact hd|exact hs.ok|exact KZ|(refine A1 [] ?_;simp only[seval,go_sem,bne,Gx,Gz,hr,arS,smS,↓D1,↓Dl,↓Dm,↓EQ,nxt,adv,Sm.c,Sm.k,Sm.x,Sm.y,Sm.e,Sm.f,Sm.cd,Sm.ar,Sm.th,Sm.el,Sm.no,BQ,Bw,K7,ifB,ifC])
 |false=>
 have j1:=i1
 simp only[nxt]at j1
 cases i2:isT lp (nxt p) with
 |true=>
  have j2:=i2
  simp only[nxt]at j2
  have hr:CT (f+1) p=(.mk 12 [] [] .nil .nil (ifC (nxt p)).1 [] [] [] p.n,BW [59] (BW [41] (ifC (nxt p)).2)):=by rw[hr0];simp[HR,i1,i2]
  have ha:=Av hq.ok i2
  have hw:=Ae (t:=[40]) ha.ok
  have hd:=K0 hw.ok
  have hcd:=SD hw.ok
  have hw2:=Ae (t:=[41]) hcd.ok
  simp only[seval,go_sem,↓D1,↓Dl,↓Dm,↓EQ,hk,j1,j2,Bi,adv]
  try simp only[A2,A3]
  repeat' first|exact ck|with_reducible apply And.intro|intro _
  all_goals first|exact hI|exact hc1|exact hq.ok|exact hqI|exact hqd|exact ha.ok|exact hd|exact hw.ok|exact hcd.ok|exact hw2.ok|exact KZ|(refine A1 [] ?_;simp only[seval,go_sem,bne,Gx,Gz,hr,arS,smS,↓D1,↓Dl,↓Dm,↓EQ,nxt,adv,Sm.c,Sm.k,Sm.x,Sm.y,Sm.e,Sm.f,Sm.cd,Sm.ar,Sm.th,Sm.el,Sm.no,BQ,Bw,K7,ifB,ifC])
 |false=>
 have j2:=i2
 simp only[nxt]at j2
 cases i3:isT lq (nxt p) with
 |true=>
  have j3:=i3
  simp only[nxt]at j3
  have hr:CT (f+1) p=(.mk 11 [] [] .nil .nil (ifC (nxt p)).1 [] (ifB (blkW (CT f)) (nxt p)).1 [] p.n,(ifB (blkW (CT f)) (nxt p)).2):=by rw[hr0];simp[HR,i1,i2,i3]
  have ha:=Av hq.ok i3
  have hw:=Ae (t:=[40]) ha.ok
  have hd:=K0 hw.ok
  have hcd:=SD hw.ok
  have hw2:=Ae (t:=[41]) hcd.ok
  have hdd:=G6 (((ha.trans hw).trans hcd).trans hw2) hqd
  simp only[seval,go_sem,↓D1,↓Dl,↓Dm,↓EQ,hk,j1,j2,j3,Bi,adv]
  try simp only[A2,A3]
  repeat' first|exact ck|with_reducible apply And.intro|intro _
  all_goals first|exact hI|exact hc1|exact hq.ok|exact hqI|exact hqd|exact ha.ok|exact hd|exact hw.ok|exact hcd.ok|exact hw2.ok|exact hdd|exact KZ|(refine A1 [] ?_;simp only[seval,go_sem,bne,Gx,Gz,hr,arS,smS,↓D1,↓Dl,↓Dm,↓EQ,nxt,adv,Sm.c,Sm.k,Sm.x,Sm.y,Sm.e,Sm.f,Sm.cd,Sm.ar,Sm.th,Sm.el,Sm.no,BQ,Bw,K7,ifB,ifC])
 |false=>
 have j3:=i3
 simp only[nxt]at j3
 cases i4:isT tIf (nxt p) with
 |true=>
  have j4:=i4
  simp only[nxt]at j4
  have ha:=Av hq.ok i4
  have hw:=Ae (t:=[40]) ha.ok
  have hd:=K0 hw.ok
  have hcd:=SD hw.ok
  have hw2:=Ae (t:=[41]) hcd.ok
  have hnn:=((ha.trans hw).trans hcd).trans hw2
  have hdd:=G6 hnn hqd
  have hb:=LV (L2 f) hw2.ok
  cases i5:isT pw (ifB (blkW (CT f)) (nxt p)).2 with
  |true=>
   have hr:CT (f+1) p=(.mk 10 [] [] .nil .nil (ifC (nxt p)).1 [] (ifB (blkW (CT f)) (nxt p)).1 (blkW (CT f) (adv (ifB (blkW (CT f)) (nxt p)).2)).1 p.n,(blkW (CT f) (adv (ifB (blkW (CT f)) (nxt p)).2)).2):=by rw[hr0];simp[HR,i1,i2,i3,i4,i5]
   have hb2:=Av hb.ok i5
   have hde:=G6 ((hnn.trans hb).trans hb2) hqd
   have j5:=i5
   simp only[nxt,ifB,ifC,adv]at j5
   simp only[seval,go_sem,↓D1,↓Dl,↓Dm,↓EQ,hk,j1,j2,j3,j4,j5,Bi,adv]
   try simp only[A2,A3]
   repeat' first|exact ck|with_reducible apply And.intro|intro _
   all_goals first|exact hI|exact hc1|exact hq.ok|exact hqI|exact hqd|exact ha.ok|exact hd|exact hw.ok|exact hcd.ok|exact hw2.ok|exact hdd|exact hb.ok|exact hb2.ok|exact hde|exact KZ|(refine A1 [] ?_;simp only[seval,go_sem,bne,Gx,Gz,hr,arS,smS,↓D1,↓Dl,↓Dm,↓EQ,nxt,adv,Sm.c,Sm.k,Sm.x,Sm.y,Sm.e,Sm.f,Sm.cd,Sm.ar,Sm.th,Sm.el,Sm.no,BQ,Bw,K7,ifB,ifC])
  |false=>
  have hr:CT (f+1) p=(.mk 10 [] [] .nil .nil (ifC (nxt p)).1 [] (ifB (blkW (CT f)) (nxt p)).1 [] p.n,(ifB (blkW (CT f)) (nxt p)).2):=by rw[hr0];simp[HR,i1,i2,i3,i4,i5]
  have j5:=i5
  simp only[nxt,ifB,ifC,adv]at j5
  simp only[seval,go_sem,↓D1,↓Dl,↓Dm,↓EQ,hk,j1,j2,j3,j4,j5,Bi,adv]
  try simp only[A2,A3]
  repeat' first|exact ck|with_reducible apply And.intro|intro _
  all_goals first|exact hI|exact hc1|exact hq.ok|exact hqI|exact hqd|exact ha.ok|exact hd|exact hw.ok|exact hcd.ok|exact hw2.ok|exact hdd|exact hb.ok|exact KZ|(refine A1 [] ?_;simp only[seval,go_sem,bne,Gx,Gz,hr,arS,smS,↓D1,↓Dl,↓Dm,↓EQ,nxt,adv,Sm.c,Sm.k,Sm.x,Sm.y,Sm.e,Sm.f,Sm.cd,Sm.ar,Sm.th,Sm.el,Sm.no,BQ,Bw,K7,ifB,ifC])
 |false=>
 have j4:=i4
 simp only[nxt]at j4
 cases i6:isT [42] (nxt p) with
 |true=>
  have j6:=i6
  simp only[nxt]at j6
  have hr:CT (f+1) p=(.mk 5 (Dy (adv (nxt p))) [] (exS (BW [61] (C4 (adv (nxt p))))).1 .nil .nil [] [] [] p.n,BW [59] (exS (BW [61] (C4 (adv (nxt p))))).2):=by rw[hr0];simp[HR,i1,i2,i3,i4,i6]
  have ha:=Av hq.ok i6
  have hn:=FX ha.ok
  have hw:=Ae (t:=[61]) hn.ok
  have hd:=K0 hw.ok
  have hs:=Di hw.ok
  simp only[seval,go_sem,↓D1,↓Dl,↓Dm,↓EQ,hk,j1,j2,j3,j4,j6,Bi,adv]
  try simp only[A2,A3]
  repeat' first|exact ck|with_reducible apply And.intro|intro _
  all_goals first|exact hI|exact hc1|exact hq.ok|exact hqI|exact hqd|exact ha.ok|exact hn.ok|exact hd|exact hw.ok|exact hs.ok|exact KZ|(refine A1 [] ?_;simp only[seval,go_sem,bne,Gx,Gz,hr,arS,smS,↓D1,↓Dl,↓Dm,↓EQ,nxt,adv,Sm.c,Sm.k,Sm.x,Sm.y,Sm.e,Sm.f,Sm.cd,Sm.ar,Sm.th,Sm.el,Sm.no,BQ,Bw,K7,ifB,ifC])
 |false=>
 have j6:=i6
 simp only[nxt]at j6
 have hn:=FX hq.ok
 cases i7:isT [40] (C4 (nxt p)) with
 |true=>
  have j7:=i7
  simp only[nxt]at j7
  have hr:CT (f+1) p=(.mk 8 [] (Dy (nxt p)) .nil .nil .nil (argW (adv (C4 (nxt p)))).1 [] [] p.n,BW [59] (argW (adv (C4 (nxt p)))).2):=by rw[hr0];simp[HR,i1,i2,i3,i4,i6,i7]
  have ha:=Av hn.ok i7
  have hs:=Pm ha.ok
  simp only[seval,go_sem,↓D1,↓Dl,↓Dm,↓EQ,hk,j1,j2,j3,j4,j6,j7,Bi,adv]
  try simp only[A2,A3]
  repeat' first|exact ck|with_reducible apply And.intro|intro _
  all_goals first|exact hI|exact hc1|exact hq.ok|exact hqI|exact hqd|exact ha.ok|exact hn.ok|exact hs.ok|exact KZ|(refine A1 [] ?_;simp only[seval,go_sem,bne,Gx,Gz,hr,arS,smS,↓D1,↓Dl,↓Dm,↓EQ,nxt,adv,Sm.c,Sm.k,Sm.x,Sm.y,Sm.e,Sm.f,Sm.cd,Sm.ar,Sm.th,Sm.el,Sm.no,BQ,Bw,K7,ifB,ifC])
 |false=>
 have j7:=i7
 simp only[nxt]at j7
 cases i8:isT [91] (C4 (nxt p)) with
 |true=>
  have j8:=i8
  simp only[nxt]at j8
  have hr:CT (f+1) p=(.mk 7 [] (Dy (nxt p)) (exS (adv (C4 (nxt p)))).1 (exS (BW [61] (BW [93] (exS (adv (C4 (nxt p)))).2))).1 .nil [] [] [] p.n,BW [59] (exS (BW [61] (BW [93] (exS (adv (C4 (nxt p)))).2))).2):=by rw[hr0];simp[HR,i1,i2,i3,i4,i6,i7,i8]
  have ha:=Av hn.ok i8
  have hd:=K0 ha.ok
  have hs:=Di ha.ok
  have hw:=Ae (t:=[93]) hs.ok
  have hw2:=Ae (t:=[61]) hw.ok
  have hd2:=K0 hw2.ok
  have hs2:=Di hw2.ok
  simp only[seval,go_sem,↓D1,↓Dl,↓Dm,↓EQ,hk,j1,j2,j3,j4,j6,j7,j8,Bi,adv]
  try simp only[A2,A3]
  repeat' first|exact ck|with_reducible apply And.intro|intro _
  all_goals first|exact hI|exact hc1|exact hq.ok|exact hqI|exact hqd|exact ha.ok|exact hn.ok|exact hd|exact hs.ok|exact hw.ok|exact hw2.ok|exact hd2|exact hs2.ok|exact KZ|(refine A1 [] ?_;simp only[seval,go_sem,bne,Gx,Gz,hr,arS,smS,↓D1,↓Dl,↓Dm,↓EQ,nxt,adv,Sm.c,Sm.k,Sm.x,Sm.y,Sm.e,Sm.f,Sm.cd,Sm.ar,Sm.th,Sm.el,Sm.no,BQ,Bw,K7,ifB,ifC])
 |false=>
 have j8:=i8
 simp only[nxt]at j8
 have hr:CT (f+1) p=(.mk (valF (BW [61] (C4 (nxt p)))).1.k (Dy (nxt p)) (valF (BW [61] (C4 (nxt p)))).1.y (valF (BW [61] (C4 (nxt p)))).1.e .nil .nil ((valF (BW [61] (C4 (nxt p)))).1.a.getD []) [] [] p.n,BW [59] (valF (BW [61] (C4 (nxt p)))).2):=by rw[hr0];simp[HR,i1,i2,i3,i4,i6,i7,i8]
 have hw:=Ae (t:=[61]) hn.ok
 have hv:=Uy hw.ok
 simp only[seval,go_sem,↓D1,↓Dl,↓Dm,↓EQ,hk,j1,j2,j3,j4,j6,j7,j8,Bi,adv]
 try simp only[A2,A3]
 repeat' first|exact ck|with_reducible apply And.intro|intro _
 all_goals first|exact hI|exact hc1|exact hq.ok|exact hqI|exact hqd|exact hn.ok|exact hw.ok|exact hv.ok|exact KZ|(refine A1 [] ?_;simp only[seval,go_sem,bne,Gx,Gz,hr,arS,smS,↓D1,↓Dl,↓Dm,↓EQ,nxt,adv,Sm.c,Sm.k,Sm.x,Sm.y,Sm.e,Sm.f,Sm.cd,Sm.ar,Sm.th,Sm.el,Sm.no,BQ,Bw,K7,ifB,ifC])
theorem iS:∀f:Nat,NW f
 |0=>by
  rintro ⟨p,_u⟩ w M I lab fz xs hc hA hl hx
  obtain⟨h1,h2⟩:=hc
  have h3:p.deep<=40:=h1.2.2.2.2.1
  have h4:41<=p.deep+((0:Nat):Int):=h2
  exact absurd h4 (by simp;omega)
 |f+1=>ss f (iS f)
noncomputable abbrev Iz{X:Ctx}{w0:World}:Sy.Spec Tryz.prog X w0:=R9 41 (dX 41 (iS 41))
def ZX(l:List Vr)(most:Int)(p:Pr):Bool:=nameB p&&decide (most<=(l.length:Int))
def Iq(l:List Vr)(ptr:Bool)(most:Int)(p:Pr):List Vr:=if ZX l most p=true then l else l++[⟨Dy p,ptr⟩]
def GN(l:List Vr)(most:Int)(p:Pr):Pr:=if ZX l most p=true then D6 53 p else C4 p
theorem S9{l:List Vr}{most:Int}{p:Pr}(h:okP p):Nx p (GN l most p):=by
 unfold GN;split
 .exact FP 53 h
 exact FX h
theorem Qs(l:List Vr)(ptr:Bool)(most:Int)(p:Pr):(Iq l ptr most p).length<=l.length+1:=by unfold Iq;split<;>simp
def Qt:Nat->List Vr->Pr->R (List Vr)
 |0,l,p=>(l,p)
 |k+1,l,p=>
  if (p.e==0)=true then
   (
    if isT [41] (GN l 6 (Bi [42] p))=true then (Iq l (isT [42] p) 6 (Bi [42] p),adv (GN l 6 (Bi [42] p)))
    else Qt k (Iq l (isT [42] p) 6 (Bi [42] p)) (BW [44] (GN l 6 (Bi [42] p))))
  else (l,p)
def UJ(p:Pr):R (List Vr):=if isT [41] p=true then ([],adv p) else Qt (p.l.length+1) [] p
def Wm(p:Pr):Bool:=isT A6a p||isT tPtr p
def PB:Nat->List Vr->Pr->R (List Vr)
 |0,l,p=>(l,p)
 |k+1,l,p=>
  if Wm p=true then PB k (Iq l (isT tPtr p) 20 (adv p)) (BW [59] (GN l 20 (adv p)))
  else (l,p)
def Wn(p:Pr):R (List Vr):=PB p.l.length [] p
def KN(p:Pr):Pr:=if isT [123] p=true then (if FU p=true then adv (C9 p) else D6 51 (C9 p)) else D6 51 p
def SA(p:Pr):Pr:=if (p.e==0&&decide (p.i<(p.l.length:Int)))=true then D6 51 p else p
def p0(l:List Tok)(n:Int):Pr:=⟨l,0,n,0,0,0,0⟩
def hdP(l:List Tok)(n:Int):Pr:=BW tFn (p0 l n)
def hd2(l:List Tok)(n:Int):Pr:=BW [40] (C4 (hdP l n))
def fp3(l:List Tok)(n:Int):R (List Vr):=UJ (hd2 l n)
def fp4(l:List Tok)(n:Int):R (List Vr):=Wn (KN (fp3 l n).2)
def fp5(l:List Tok)(n:Int):R (List Sm):=A6b (fp4 l n).2
def fp6(l:List Tok)(n:Int):Pr:=SA (fp5 l n).2
def GO(s:List UInt8):Fn×Int×Int:=
 if (rxT s).2.2 != 0 then (fn0,(rxT s).2.1,(rxT s).2.2)
 else if (fp6 (rxT s).1 (s.length:Int)).e != 0 then (fn0,(fp6 (rxT s).1 (s.length:Int)).at',(fp6 (rxT s).1 (s.length:Int)).e)
 else (⟨Dy (hdP (rxT s).1 (s.length:Int)),(fp3 (rxT s).1 (s.length:Int)).1,(fp4 (rxT s).1 (s.length:Int)).1,(fp5 (rxT s).1 (s.length:Int)).1⟩,0,0)
theorem VJ(s:List UInt8)(hs:s.length<=4096):∀(f i:Nat) (out:List Tok),i<=s.length->out.length<=i->(∀x∈out,x.t.length<=4096)->(rxF s f i out).1.length<=4096/\∀x∈(rxF s f i out).1,x.t.length<=4096
 |0,i,out,hi,ho,hx=>⟨by show out.length<=4096;omega,hx⟩
 |f+1,i,out,hi,ho,hx=>by
  have hnil:([]:List Tok).length<=4096/\∀x∈([]:List Tok),x.t.length<=4096:=⟨by simp,by simp⟩
  have hsn:∀(k n:Nat) (kd:Int),0<n->i+n<=s.length->(rxF s f (i+n) (out++[⟨kd,(s.drop i).take k,(i:Int)⟩])).1.length<=4096/\∀x∈(rxF s f (i+n) (out++[⟨kd,(s.drop i).take k,(i:Int)⟩])).1,x.t.length<=4096:=by
   intro k n kd hn hin
   refine VJ s hs f (i+n) _ hin (by simp;omega) ?_
   intro x hxm
   rcases List.mem_append.1 hxm with h|h
   .exact hx x h
   simp only[List.mem_singleton]at h;subst h;simp only[List.length_take,List.length_drop];omega
  simp only[rxF]
  split
  .exact⟨by show out.length<=4096;omega,hx⟩
  rename_i hlt
  have hlt:i<s.length:=by omega
  have sp:=λp=>OT p (s.drop i)
  simp only[List.length_drop]at sp
  split
  .exact VJ s hs f _ _ (by omega) (by omega) hx
  split
  .exact VJ s hs f _ _ (by have:=sp nlB;omega) (by omega) hx
  split
  .rename_i hl
   have h1:=JY idB hlt
   rw[if_pos (show idB _=true by show (Lu _||Ep _)=true;rw[hl];rfl)]at h1
   split
   .exact hnil
   exact hsn _ _ 0 (by omega) (by have:=sp idB;omega)
  split
  .rename_i hd
   have h1:=JY Ep hlt
   rw[if_pos hd]at h1
   split
   .exact hnil
   split
   .exact hnil
   exact hsn _ _ 1 (by omega) (by have:=sp Ep;omega)
  split
  .rename_i ht
   unfold gX at ht
   simp only[Bool.and_eq_true,decide_eq_true_eq]at ht
   exact hsn 2 2 2 (by omega) (by omega)
  split
  .exact hsn 1 1 2 (by omega) (by omega)
  exact hnil
theorem iT(s:List UInt8):(rxT s).1.length<=4096/\∀x∈(rxT s).1,x.t.length<=4096:=by
 unfold rxT
 split
 .exact⟨by simp,by simp⟩
 rename_i h
 exact VJ s (by simp at h;omega) _ 0 [] (Nat.zero_le _) (Nat.le_refl _) (by simp)
theorem fB(s:List UInt8)(n:Int):okP (p0 (rxT s).1 n):=⟨Int.le_refl _,by show (0:Int)<=_;omega,(iT s).1,Int.le_refl _,by show (0:Int)<=40;decide,(iT s).2⟩
theorem iU(s:List UInt8)(n:Int):Nx (p0 (rxT s).1 n) (hdP (rxT s).1 n):=Ae (fB s n)
theorem ZY(s:List UInt8)(n:Int):Nx (p0 (rxT s).1 n) (hd2 (rxT s).1 n):=by
 have h1:=iU s n
 have h2:=h1.trans (FX h1.ok)
 exact h2.trans (Ae h2.ok)
theorem cn:∀(k:Nat) (l:List Vr) (p:Pr),okP p->Nx p (Qt k l p).2
 |0,l,p,h=>.refl h
 |k+1,l,p,h=>by
  simp only[Qt]
  split
  .have h1:=gx (t:=[42]) h
   have h2:=h1.trans (S9 (l:=l) (most:=6) h1.ok)
   split
   .rename_i hi;exact h2.trans (Av h2.ok hi)
   have h3:=h2.trans (Ae (t:=[44]) h2.ok)
   exact h3.trans (cn k _ _ h3.ok)
  exact .refl h
theorem Wo{p:Pr}(h:okP p):Nx p (UJ p).2:=by
 unfold UJ;split
 .rename_i hi;exact Av h hi
 exact cn _ _ _ h
theorem VK{p:Pr}(h:Wm p=true):p.e=0/\p.i<(p.l.length:Int):=by
 unfold Wm at h
 simp only[Bool.or_eq_true]at h
 rcases h with h|h<;>exact B6 h
theorem T1:∀(k:Nat) (l:List Vr) (p:Pr),okP p->Nx p (PB k l p).2
 |0,l,p,h=>.refl h
 |k+1,l,p,h=>by
  simp only[PB]
  split
  .rename_i hb
   have h1:=En h (VK hb).2 (VK hb).1
   have h2:=h1.trans (S9 (l:=l) (most:=20) h1.ok)
   have h3:=h2.trans (Ae (t:=[59]) h2.ok)
   exact h3.trans (T1 k _ _ h3.ok)
  exact .refl h
end Go.Proofs.YtapedeoheilnnaaGreat
namespace Go.Sy
open Go Go.RowKit
section
variable {P:Program}{X:Ctx}{w0:World}{n:Nat}
theorem mf{c:Code}{s:St}{Q Q':Exit->St->Prop}(h:Tri (P:=P) X w0 n c s Q)(hq:∀e s,Q e s->Q' e s):Tri (P:=P) X w0 n c s Q':=by
 intro a w hs
 refine Code.wp_mono ?_ (h a w hs)
 rintro e a' w' (⟨s',h1,h2⟩|h)
 .exact .inl ⟨s',hq e s' h1,h2⟩
 exact .inr h
theorem co{a b:Code}{s:St}{Q:Exit->St->Prop}(h:Tri (P:=P) X w0 n a s (M9 (λs'=>Tri (P:=P) X w0 n b s' Q) Q)):Tri (P:=P) X w0 n (.seq a b) s Q:=by
 intro act w hs
 refine wp_seq ?_
 refine Code.wp_mono ?_ (h act w hs)
 rintro e a' w' (⟨s',hq,hs'⟩|⟨ch,rfl,h⟩)
 .cases e with
  |normal=>exact hq a' w' hs'
  |_=>exact .inl ⟨s',hq,hs'⟩
 exact .inr ⟨ch,rfl,h⟩
theorem yJ{c:Code}{s t:St}{Q:Exit->St->Prop}(h:Tri (P:=P) X w0 n c t Q)(hs:To X s t):Tri (P:=P) X w0 n c s Q:=λa w hh=>h a w (hs w0 n a w hh)
theorem T3{Y:Type}{a b:Code}{s:St}{Q:Exit->St->Prop}(J:Y->Prop)(S:Y->St)(sp:List (Spec P X w0))(g:Gh)(h1:vc X w0 sp n g a s (M9 (λs'=>∃y,J y/\To X s' (S y)) Q))(h2:∀y,J y->Tri (P:=P) X w0 n b (S y) Q):Tri (P:=P) X w0 n (.seq a b) s Q:=by
 refine co (mf (AZ sp g a s _ h1) ?_)
 intro e s' hq
 cases e with
 |normal=>obtain⟨y,hy,hto⟩:=hq;exact yJ (h2 y hy) hto
 |_=>exact hq
theorem HW{a b:Code}{s:St}{Q:Exit->St->Prop}(sp:List (Spec P X w0))(g:Gh)(h1:vc X w0 sp n g a s (M9 (λs'=>Tri (P:=P) X w0 n b s' Q) Q)):Tri (P:=P) X w0 n (.seq a b) s Q:=co (AZ sp g a s _ h1)
end
section
variable {P:Program}
theorem iV{f:FuncId}{fn:Func}{c:Code}(hf:P.funcs[f]?=some fn)(hb:fn.body=some c)(w:World)(fz:Nat->Prop)(args:List SV)(hnm:∀v∈args,v.names=[])(hfz:∀b,fz b->b<w.heap.size)
  (xs:List Value) (hlen:xs.length=args.length) (hx:∀(j:Nat) (v:SV) (x:Value),args[j]?=some v->xs[j]?=some x->CD (hp w) fz v x) (R:SV->Prop)
  (hn:args.length<=fn.ntmps) (h:Tri (P:=P) (clX fz) w fn.ntmps c ⟨Iu 0 args,[]⟩ (Mo P (clX fz) fn.results.toList (λ_ vs=>(Eo vs).names=[]/\R (Eo vs)))) :
  Calls P f xs.toArray w (KJ w fz R):=by
 refine calls_of_wp hf hb (Code.wp_mono ?_ (h _ w ?_))
 .rintro e a w' (⟨s,hq,hs⟩|⟨ch,rfl,_,_,I1,l1,f1,H1,_,hpn⟩)
  rotate_left
  .exact hpn.elim
  have fin:Mn P (clX fz) fn.results.toList (λ_ vs=>(Eo vs).names=[]/\R (Eo vs)) s->a.defers=[]/\∃v,(results fn a.tmps).run P w'= .ok v w'/\KJ w fz R (Ending.returned v) w':=by
   rintro ⟨cs,s',vs,h1,h2,h3,h4,h5⟩
   refine⟨hs.defers,?_⟩
   obtain⟨_,I,lab,fz',hA⟩:=GY h1 a w' hs
   obtain⟨x,x1,x2⟩:=Jw hA h2 h3
   refine⟨x,x1,Eo vs,x,λb=>fz' b∨fz b,rfl,h5,h4,λb hb=>.inr hb,λb hb=>?_,λb hb=>?_,HO (λb hb=>⟨.inl hb,rfl⟩) h4 x2,hA.m.kept.below (λ_ _ hf=>hf)⟩
   .rcases hb with hb|hb
    .rcases hA.m.fzo b hb with h|h|h
     .exact .inl h
     .exact .inr h
     .exact h.elim
    .exact .inl hb
   .rcases hb with hb|hb
    .exact(hA.m.fzl b hb).1
    .exact Nat.lt_of_lt_of_le (hfz b hb) hA.m.kept.size
  cases e with
  |normal=>exact fin hq
  |ret=>exact fin hq
  |_=>exact hq.elim
 .have hE0:∀t g v,lkp (Iu 0 args) t=some (g,v)->g=true/\args[t]?=some v:=by
   intro t g v ht
   rw[Gn]at ht
   simp only[Nat.zero_le,if_true,Nat.sub_zero,Option.map_eq_some_iff,jP]at ht
   obtain⟨u,hu,rfl,rfl⟩:=ht
   exact⟨rfl,hu⟩
  refine⟨?_,nm0,λ_=>none,fz,?_,⟨rfl,λp hp=>by cases hp⟩,?_,⟨?_,?_,?_,λb hb=>⟨hfz b hb,rfl⟩,λb hb=>.inl hb,Kept.refl _ _,by intro p hp;cases hp⟩⟩
  .intro t g v ht _
   have:=(hE0 t g v ht).2
   rw[hnm v (List.mem_of_getElem? this)]
   intro k hk;cases hk
  .simp[hlen];omega
  .intro t g v ht
   obtain⟨rfl,hv⟩:=hE0 t g v ht
   have hlt:t<args.length:=(List.getElem?_eq_some_iff.1 hv).1
   have hlt2:t<xs.length:=by omega
   refine⟨xs[t],?_,?_⟩
   .rw[Array.getElem?_append_left (by simpa using hlt2)]
    simp[hlt2]
   .simp only[if_true]
    exact HO (λb hb=>⟨hb,rfl⟩) (hnm v (List.mem_of_getElem? hv)) (hx t v _ hv (List.getElem?_eq_getElem hlt2))
  .intro k ch hk;simp[lkp]at hk
  .intro k ch hk;simp[lkp]at hk
  .intro b π hb;cases hb
theorem fC{f:FuncId}{fn:Func}{c:Code}(hf:P.funcs[f]?=some fn)(hb:fn.body=some c)(w:World)(fz:Nat->Prop){A:Type}(ac:ArgC A)(F:A->SV)(a:A)(xs:List Value)(hfz:∀b,fz b->b<w.heap.size)(hl:xs.length=(ac.e a).length)
  (hx:∀(j:Nat) (v:SV) (x:Value),(ac.e a)[j]?=some v->xs[j]?=some x->CD (hp w) fz v x) (hn:(ac.e a).length<=fn.ntmps)
  (h:Tri (P:=P) (clX fz) w fn.ntmps c ⟨Iu 0 (ac.e a),[]⟩ (Mo P (clX fz) fn.results.toList (eo (F a)))):Calls P f xs.toArray w (KJ w fz (λv=>v=F a)):=
 (iV hf hb w fz (ac.e a) (ac.n a) hfz xs hl hx (λv=>leV v (F a)) hn h).mono λ_ _ h=>UI h
end
end Go.Sy
