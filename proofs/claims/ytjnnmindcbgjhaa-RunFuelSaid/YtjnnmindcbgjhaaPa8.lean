/- One statement, walked. No conditions but those in each statement. -/
import Derived.Test.YtjnnmindcbgjhaaSo
import Derived.Test.YtjnnmindcbgjhaaAt
import Derived.Test.YtjnnmindcbgjhaaSy28
set_option linter.unusedVariables false
set_option linter.unusedSimpArgs false
namespace Go.Proofs.Ytjnnmindcbgjhaa
open Go Go.Sy Go.RowKit
attribute [local go_sem] Pr.c Tok.r Ad Ai AS Ah Ag A1i l7 l6 AQ ptR Af AR Ac OE XV CV Cv Hq AC AU AH A8 AM A7 Ij AG Aw AN zSc zTk
set_option maxRecDepth 20000 in set_option maxHeartbeats 16000000 in
theorem mj (f:Nat) (hu:Mb f):Mb (f+1):=by
 rintro ⟨p,_u⟩ w M I lab fz xs hc hA hl hx
 refine Am Try.func77 rfl ((LS).mem ⟨p,_u⟩) w M I lab fz [AU,A8,AC,AG,AH,A7,Hq,Ij,Uj,A10,(XV f (ph f hu))] [] ((LS).args 0 ⟨p,_u⟩) ((fun p:(Pr)×Unit=>ER (f+1) p.1) ⟨p,_u⟩) ((fun p:(Pr)×Unit=>F7 (f+1) p.1) ⟨p,_u⟩) xs hA hl hx (fun v hv k hk=>by have:=(LS).an 0 ⟨p,_u⟩ v hv k hk;omega) (jN rfl) (jN rfl) ?_
 clear hx hl hA xs
 simp only[Try.f77]
 obtain⟨hc1,hc2⟩:=hc
 dsimp only at hc1 hc2
 have hI:=hc1.i
 have hq:=T5 hc1
 have hqI:=hq.ok.i
 have hqd:=WH hq hc2
 cases hk:(Zz p&&decide (200≤p.n)) with
 |true=>
  have hr:C0 (f+1) p=(sm0 p.n,CI 53 p):=by simp only[C0];rw[if_pos hk]
  simp only[Zz]at hk
  simp only[↓eB,seval,go_sem,↓CC,↓Cq,↓Cr,↓DH,hk]
  try simp only[A2,A3]
  repeat' first|exact ck|with_reducible apply And.intro|intro _
  all_goals first|exact hI|exact hc1|(rename_i h;first|exact oI h|exact nah h)|(rename_i _ h _ g;exact sL h g)|decide|omega|(refine A0 [] ?_;simp only[↓eB,seval,go_sem,bne,F7,ER,hr,arS,smS,↓CC,↓Cq,↓Cr,↓DH,sm0,Sm.c,Sm.k,Sm.x,Sm.y,Sm.e,Sm.f,Sm.cd,Sm.ar,Sm.th,Sm.el,Sm.no,AY,Ao,JN,ifB,ifC])
 |false=>
 have hr0:C0 (f+1) p=Hy (C0 f) p.n (nxt p):=by simp only[C0];rw[if_neg (by rw[hk];decide)]
 simp only[Zz]at hk
 cases i1:isT fL (nxt p) with
 |true=>
  have j1:=i1
  simp only[nxt]at j1
  have hr:C0 (f+1) p=(.mk 9 [] [] (exS (adv (nxt p))).1 .nil .nil [] [] [] p.n,B1 [59] (exS (adv (nxt p))).2):=by rw[hr0];simp[Hy,i1]
  have ha:=B6 hq.ok i1
  have hs:=E7 ha.ok
  have hd:=L3 ha.ok
  simp only[↓eB,seval,go_sem,↓CC,↓Cq,↓Cr,↓DH,hk,j1,B9,adv]
  try simp only[A2,A3]
  repeat' first|exact ck|with_reducible apply And.intro|intro _
  all_goals first|exact hI|exact hc1|exact hq.ok|exact hqI|exact hqd|exact ha.ok|exact hd|exact hs.ok|(rename_i h;first|exact oI h|exact nah h)|(rename_i _ h _ g;exact sL h g)|decide|omega|(refine A0 [] ?_;simp only[↓eB,seval,go_sem,bne,F7,ER,hr,arS,smS,↓CC,↓Cq,↓Cr,↓DH,nxt,adv,Sm.c,Sm.k,Sm.x,Sm.y,Sm.e,Sm.f,Sm.cd,Sm.ar,Sm.th,Sm.el,Sm.no,AY,Ao,JN,ifB,ifC])
 |false=>
 have j1:=i1
 simp only[nxt]at j1
 cases i2:isT fM (nxt p) with
 |true=>
  have j2:=i2
  simp only[nxt]at j2
  have hr:C0 (f+1) p=(.mk 12 [] [] .nil .nil (ifC (nxt p)).1 [] [] [] p.n,B1 [59] (B1 [41] (ifC (nxt p)).2)):=by rw[hr0];simp[Hy,i1,i2]
  have ha:=B6 hq.ok i2
  have hw:=BB (t:=[40]) ha.ok
  have hd:=L3 hw.ok
  have hcd:=Qj hw.ok
  have hw2:=BB (t:=[41]) hcd.ok
  simp only[↓eB,seval,go_sem,↓CC,↓Cq,↓Cr,↓DH,hk,j1,j2,B9,adv]
  try simp only[A2,A3]
  repeat' first|exact ck|with_reducible apply And.intro|intro _
  all_goals first|exact hI|exact hc1|exact hq.ok|exact hqI|exact hqd|exact ha.ok|exact hd|exact hw.ok|exact hcd.ok|exact hw2.ok|(rename_i h;first|exact oI h|exact nah h)|(rename_i _ h _ g;exact sL h g)|decide|omega|(refine A0 [] ?_;simp only[↓eB,seval,go_sem,bne,F7,ER,hr,arS,smS,↓CC,↓Cq,↓Cr,↓DH,nxt,adv,Sm.c,Sm.k,Sm.x,Sm.y,Sm.e,Sm.f,Sm.cd,Sm.ar,Sm.th,Sm.el,Sm.no,AY,Ao,JN,ifB,ifC])
 |false=>
 have j2:=i2
 simp only[nxt]at j2
 cases i3:isT fN (nxt p) with
 |true=>
  have j3:=i3
  simp only[nxt]at j3
  have hr:C0 (f+1) p=(.mk 11 [] [] .nil .nil (ifC (nxt p)).1 [] (ifB (blkW (C0 f)) (nxt p)).1 [] p.n,(ifB (blkW (C0 f)) (nxt p)).2):=by rw[hr0];simp[Hy,i1,i2,i3]
  have ha:=B6 hq.ok i3
  have hw:=BB (t:=[40]) ha.ok
  have hd:=L3 hw.ok
  have hcd:=Qj hw.ok
  have hw2:=BB (t:=[41]) hcd.ok
  have hdd:=WH (((ha.trans hw).trans hcd).trans hw2) hqd
  simp only[↓eB,seval,go_sem,↓CC,↓Cq,↓Cr,↓DH,hk,j1,j2,j3,B9,adv]
  try simp only[A2,A3]
  repeat' first|exact ck|with_reducible apply And.intro|intro _
  all_goals first|exact hI|exact hc1|exact hq.ok|exact hqI|exact hqd|exact ha.ok|exact hd|exact hw.ok|exact hcd.ok|exact hw2.ok|exact hdd|(rename_i h;first|exact oI h|exact nah h)|(rename_i _ h _ g;exact sL h g)|decide|omega|(refine A0 [] ?_;simp only[↓eB,seval,go_sem,bne,F7,ER,hr,arS,smS,↓CC,↓Cq,↓Cr,↓DH,nxt,adv,Sm.c,Sm.k,Sm.x,Sm.y,Sm.e,Sm.f,Sm.cd,Sm.ar,Sm.th,Sm.el,Sm.no,AY,Ao,JN,ifB,ifC])
 |false=>
 have j3:=i3
 simp only[nxt]at j3
 cases i4:isT tIf (nxt p) with
 |true=>
  have j4:=i4
  simp only[nxt]at j4
  have ha:=B6 hq.ok i4
  have hw:=BB (t:=[40]) ha.ok
  have hd:=L3 hw.ok
  have hcd:=Qj hw.ok
  have hw2:=BB (t:=[41]) hcd.ok
  have hnn:=((ha.trans hw).trans hcd).trans hw2
  have hdd:=WH hnn hqd
  have hb:=OR (Mq f) hw2.ok
  cases i5:isT jy (ifB (blkW (C0 f)) (nxt p)).2 with
  |true=>
   have hr:C0 (f+1) p=(.mk 10 [] [] .nil .nil (ifC (nxt p)).1 [] (ifB (blkW (C0 f)) (nxt p)).1 (blkW (C0 f) (adv (ifB (blkW (C0 f)) (nxt p)).2)).1 p.n,(blkW (C0 f) (adv (ifB (blkW (C0 f)) (nxt p)).2)).2):=by rw[hr0];simp[Hy,i1,i2,i3,i4,i5]
   have hb2:=B6 hb.ok i5
   have hde:=WH ((hnn.trans hb).trans hb2) hqd
   have j5:=i5
   simp only[nxt,ifB,ifC,adv]at j5
   simp only[↓eB,seval,go_sem,↓CC,↓Cq,↓Cr,↓DH,hk,j1,j2,j3,j4,j5,B9,adv]
   try simp only[A2,A3]
   repeat' first|exact ck|with_reducible apply And.intro|intro _
   all_goals first|exact hI|exact hc1|exact hq.ok|exact hqI|exact hqd|exact ha.ok|exact hd|exact hw.ok|exact hcd.ok|exact hw2.ok|exact hdd|exact hb.ok|exact hb2.ok|exact hde|(rename_i h;first|exact oI h|exact nah h)|(rename_i _ h _ g;exact sL h g)|decide|omega|(refine A0 [] ?_;simp only[↓eB,seval,go_sem,bne,F7,ER,hr,arS,smS,↓CC,↓Cq,↓Cr,↓DH,nxt,adv,Sm.c,Sm.k,Sm.x,Sm.y,Sm.e,Sm.f,Sm.cd,Sm.ar,Sm.th,Sm.el,Sm.no,AY,Ao,JN,ifB,ifC])
  |false=>
   have hr:C0 (f+1) p=(.mk 10 [] [] .nil .nil (ifC (nxt p)).1 [] (ifB (blkW (C0 f)) (nxt p)).1 [] p.n,(ifB (blkW (C0 f)) (nxt p)).2):=by rw[hr0];simp[Hy,i1,i2,i3,i4,i5]
   have j5:=i5
   simp only[nxt,ifB,ifC,adv]at j5
   simp only[↓eB,seval,go_sem,↓CC,↓Cq,↓Cr,↓DH,hk,j1,j2,j3,j4,j5,B9,adv]
   try simp only[A2,A3]
   repeat' first|exact ck|with_reducible apply And.intro|intro _
   all_goals first|exact hI|exact hc1|exact hq.ok|exact hqI|exact hqd|exact ha.ok|exact hd|exact hw.ok|exact hcd.ok|exact hw2.ok|exact hdd|exact hb.ok|(rename_i h;first|exact oI h|exact nah h)|(rename_i _ h _ g;exact sL h g)|decide|omega|(refine A0 [] ?_;simp only[↓eB,seval,go_sem,bne,F7,ER,hr,arS,smS,↓CC,↓Cq,↓Cr,↓DH,nxt,adv,Sm.c,Sm.k,Sm.x,Sm.y,Sm.e,Sm.f,Sm.cd,Sm.ar,Sm.th,Sm.el,Sm.no,AY,Ao,JN,ifB,ifC])
 |false=>
 have j4:=i4
 simp only[nxt]at j4
 cases i6:isT [42] (nxt p) with
 |true=>
  have j6:=i6
  simp only[nxt]at j6
  have hr:C0 (f+1) p=(.mk 5 (Cz (adv (nxt p))) [] (exS (B1 [61] (BW (adv (nxt p))))).1 .nil .nil [] [] [] p.n,B1 [59] (exS (B1 [61] (BW (adv (nxt p))))).2):=by rw[hr0];simp[Hy,i1,i2,i3,i4,i6]
  have ha:=B6 hq.ok i6
  have hn:=FK ha.ok
  have hw:=BB (t:=[61]) hn.ok
  have hd:=L3 hw.ok
  have hs:=E7 hw.ok
  simp only[↓eB,seval,go_sem,↓CC,↓Cq,↓Cr,↓DH,hk,j1,j2,j3,j4,j6,B9,adv]
  try simp only[A2,A3]
  repeat' first|exact ck|with_reducible apply And.intro|intro _
  all_goals first|exact hI|exact hc1|exact hq.ok|exact hqI|exact hqd|exact ha.ok|exact hn.ok|exact hd|exact hw.ok|exact hs.ok|(rename_i h;first|exact oI h|exact nah h)|(rename_i _ h _ g;exact sL h g)|decide|omega|(refine A0 [] ?_;simp only[↓eB,seval,go_sem,bne,F7,ER,hr,arS,smS,↓CC,↓Cq,↓Cr,↓DH,nxt,adv,Sm.c,Sm.k,Sm.x,Sm.y,Sm.e,Sm.f,Sm.cd,Sm.ar,Sm.th,Sm.el,Sm.no,AY,Ao,JN,ifB,ifC])
 |false=>
 have j6:=i6
 simp only[nxt]at j6
 have hn:=FK hq.ok
 cases i7:isT [40] (BW (nxt p)) with
 |true=>
  have j7:=i7
  simp only[nxt]at j7
  have hr:C0 (f+1) p=(.mk 8 [] (Cz (nxt p)) .nil .nil .nil (Gk (adv (BW (nxt p)))).1 [] [] p.n,B1 [59] (Gk (adv (BW (nxt p)))).2):=by rw[hr0];simp[Hy,i1,i2,i3,i4,i6,i7]
  have ha:=B6 hn.ok i7
  have hs:=RX ha.ok
  simp only[↓eB,seval,go_sem,↓CC,↓Cq,↓Cr,↓DH,hk,j1,j2,j3,j4,j6,j7,B9,adv]
  try simp only[A2,A3]
  repeat' first|exact ck|with_reducible apply And.intro|intro _
  all_goals first|exact hI|exact hc1|exact hq.ok|exact hqI|exact hqd|exact ha.ok|exact hn.ok|exact hs.ok|(rename_i h;first|exact oI h|exact nah h)|(rename_i _ h _ g;exact sL h g)|decide|omega|(refine A0 [] ?_;simp only[↓eB,seval,go_sem,bne,F7,ER,hr,arS,smS,↓CC,↓Cq,↓Cr,↓DH,nxt,adv,Sm.c,Sm.k,Sm.x,Sm.y,Sm.e,Sm.f,Sm.cd,Sm.ar,Sm.th,Sm.el,Sm.no,AY,Ao,JN,ifB,ifC])
 |false=>
 have j7:=i7
 simp only[nxt]at j7
 cases i8:isT [91] (BW (nxt p)) with
 |true=>
  have j8:=i8
  simp only[nxt]at j8
  have hr:C0 (f+1) p=(.mk 7 [] (Cz (nxt p)) (exS (adv (BW (nxt p)))).1 (exS (B1 [61] (B1 [93] (exS (adv (BW (nxt p)))).2))).1 .nil [] [] [] p.n,B1 [59] (exS (B1 [61] (B1 [93] (exS (adv (BW (nxt p)))).2))).2):=by rw[hr0];simp[Hy,i1,i2,i3,i4,i6,i7,i8]
  have ha:=B6 hn.ok i8
  have hd:=L3 ha.ok
  have hs:=E7 ha.ok
  have hw:=BB (t:=[93]) hs.ok
  have hw2:=BB (t:=[61]) hw.ok
  have hd2:=L3 hw2.ok
  have hs2:=E7 hw2.ok
  simp only[↓eB,seval,go_sem,↓CC,↓Cq,↓Cr,↓DH,hk,j1,j2,j3,j4,j6,j7,j8,B9,adv]
  try simp only[A2,A3]
  repeat' first|exact ck|with_reducible apply And.intro|intro _
  all_goals first|exact hI|exact hc1|exact hq.ok|exact hqI|exact hqd|exact ha.ok|exact hn.ok|exact hd|exact hs.ok|exact hw.ok|exact hw2.ok|exact hd2|exact hs2.ok|(rename_i h;first|exact oI h|exact nah h)|(rename_i _ h _ g;exact sL h g)|decide|omega|(refine A0 [] ?_;simp only[↓eB,seval,go_sem,bne,F7,ER,hr,arS,smS,↓CC,↓Cq,↓Cr,↓DH,nxt,adv,Sm.c,Sm.k,Sm.x,Sm.y,Sm.e,Sm.f,Sm.cd,Sm.ar,Sm.th,Sm.el,Sm.no,AY,Ao,JN,ifB,ifC])
 |false=>
 have j8:=i8
 simp only[nxt]at j8
 have hr:C0 (f+1) p=(.mk (EX (B1 [61] (BW (nxt p)))).1.k (Cz (nxt p)) (EX (B1 [61] (BW (nxt p)))).1.y (EX (B1 [61] (BW (nxt p)))).1.e .nil .nil ((EX (B1 [61] (BW (nxt p)))).1.a.getD []) [] [] p.n,B1 [59] (EX (B1 [61] (BW (nxt p)))).2):=by rw[hr0];simp[Hy,i1,i2,i3,i4,i6,i7,i8]
 have hw:=BB (t:=[61]) hn.ok
 have hv:=Wi hw.ok
 simp only[↓eB,seval,go_sem,↓CC,↓Cq,↓Cr,↓DH,hk,j1,j2,j3,j4,j6,j7,j8,B9,adv]
 try simp only[A2,A3]
 repeat' first|exact ck|with_reducible apply And.intro|intro _
 all_goals first|exact hI|exact hc1|exact hq.ok|exact hqI|exact hqd|exact hn.ok|exact hw.ok|exact hv.ok|(rename_i h;first|exact oI h|exact nah h)|(rename_i _ h _ g;exact sL h g)|decide|omega|(refine A0 [] ?_;simp only[↓eB,seval,go_sem,bne,F7,ER,hr,arS,smS,↓CC,↓Cq,↓Cr,↓DH,nxt,adv,Sm.c,Sm.k,Sm.x,Sm.y,Sm.e,Sm.f,Sm.cd,Sm.ar,Sm.th,Sm.el,Sm.no,AY,Ao,JN,ifB,ifC])
theorem cb:∀f:Nat,Mb f
 |0=>by
  rintro ⟨p,_u⟩ w M I lab fz xs hc hA hl hx
  obtain⟨h1,h2⟩:=hc
  have h3:p.deep≤40:=h1.2.2.2.2.1
  have h4:41≤p.deep+((0:Nat):Int):=h2
  exact absurd h4 (by simp;omega)
 |f+1=>mj f (cb f)
noncomputable abbrev I9 {X:Ctx} {w0:World}:Sy.Spec Try.prog X w0:=Q3 41 (ZY 41 (cb 41))
end Go.Proofs.Ytjnnmindcbgjhaa
namespace Go.Proofs.Ytjnnmindcbgjhaa
open Go Go.Sy Go.RowKit
def X2 (l:List Vr) (most:Int) (p:Pr):Bool:=nameB p&&decide (most≤(l.length:Int))
def Hz (l:List Vr) (ptr:Bool) (most:Int) (p:Pr):List Vr:=if X2 l most p=true then l else l++[⟨Cz p,ptr⟩]
def FO (l:List Vr) (most:Int) (p:Pr):Pr:=if X2 l most p=true then CI 53 p else BW p
theorem Qg {l:List Vr} {most:Int} {p:Pr} (h:okP p):Nx p (FO l most p):=by
 unfold FO;split
 ·exact F1 53 h
 ·exact FK h
theorem Pk (l:List Vr) (ptr:Bool) (most:Int) (p:Pr):(Hz l ptr most p).length≤l.length+1:=by unfold Hz;split<;>simp
def Pm:Nat→List Vr→Pr→R (List Vr)
 |0,l,p=>(l,p)
 |k+1,l,p=>
  if (p.e==0)=true then
   (
    if isT [41] (FO l 6 (B9 [42] p))=true then (Hz l (isT [42] p) 6 (B9 [42] p),adv (FO l 6 (B9 [42] p)))
    else Pm k (Hz l (isT [42] p) 6 (B9 [42] p)) (B1 [44] (FO l 6 (B9 [42] p))))
  else (l,p)
def SN (p:Pr):R (List Vr):=if isT [41] p=true then ([],adv p) else Pm (p.l.length+1) [] p
def UW (p:Pr):Bool:=isT A69 p||isT tPtr p
def OB:Nat→List Vr→Pr→R (List Vr)
 |0,l,p=>(l,p)
 |k+1,l,p=>
  if UW p=true then OB k (Hz l (isT tPtr p) 20 (adv p)) (B1 [59] (FO l 20 (adv p)))
  else (l,p)
def UX (p:Pr):R (List Vr):=OB p.l.length [] p
def M6 (p:Pr):Pr:=if isT [123] p=true then (if Et p=true then adv (Bl p) else CI 51 (Bl p)) else CI 51 p
def SO (p:Pr):Pr:=if (p.e==0&&decide (p.i<(p.l.length:Int)))=true then CI 51 p else p
def p0 (l:List Tok) (n:Int):Pr:=⟨l,0,n,0,0,0,0⟩
def hdP (l:List Tok) (n:Int):Pr:=B1 tFn (p0 l n)
def hd2 (l:List Tok) (n:Int):Pr:=B1 [40] (BW (hdP l n))
def fp3 (l:List Tok) (n:Int):R (List Vr):=SN (hd2 l n)
def fp4 (l:List Tok) (n:Int):R (List Vr):=UX (M6 (fp3 l n).2)
def fp5 (l:List Tok) (n:Int):R (List Sm):=A6A (fp4 l n).2
def fp6 (l:List Tok) (n:Int):Pr:=SO (fp5 l n).2
def FP (s:List UInt8):Fn×Int×Int:=
 if (rxT s).2.2 != 0 then (fn0,(rxT s).2.1,(rxT s).2.2)
 else if (fp6 (rxT s).1 (s.length:Int)).e != 0 then (fn0,(fp6 (rxT s).1 (s.length:Int)).at',(fp6 (rxT s).1 (s.length:Int)).e)
 else (⟨Cz (hdP (rxT s).1 (s.length:Int)),(fp3 (rxT s).1 (s.length:Int)).1,(fp4 (rxT s).1 (s.length:Int)).1,(fp5 (rxT s).1 (s.length:Int)).1⟩,0,0)
theorem TR (s:List UInt8) (hs:s.length≤4096):∀(f i:Nat) (out:List Tok),i≤s.length→out.length≤i→(∀x∈out,x.t.length≤4096)→(rxF s f i out).1.length≤4096∧∀x∈(rxF s f i out).1,x.t.length≤4096
 |0,i,out,hi,ho,hx=>⟨by show out.length≤4096;omega,hx⟩
 |f+1,i,out,hi,ho,hx=>by
  have hnil:([]:List Tok).length≤4096∧∀x∈([]:List Tok),x.t.length≤4096:=⟨by simp,by simp⟩
  have hsn:∀(k n:Nat) (kd:Int),0<n→i+n≤s.length→(rxF s f (i+n) (out++[⟨kd,(s.drop i).take k,(i:Int)⟩])).1.length≤4096∧∀x∈(rxF s f (i+n) (out++[⟨kd,(s.drop i).take k,(i:Int)⟩])).1,x.t.length≤4096:=by
   intro k n kd hn hin
   refine TR s hs f (i+n) _ hin (by simp;omega) ?_
   intro x hxm
   rcases List.mem_append.1 hxm with h|h
   ·exact hx x h
   ·simp only[List.mem_singleton]at h;subst h;simp only[List.length_take,List.length_drop];omega
  simp only[rxF]
  split
  ·exact⟨by show out.length≤4096;omega,hx⟩
  ·rename_i hlt
   have hlt:i<s.length:=by omega
   have sp:=fun p=>Nn p (s.drop i)
   simp only[List.length_drop]at sp
   split
   ·exact TR s hs f _ _ (by omega) (by omega) hx
   split
   ·exact TR s hs f _ _ (by have:=sp nlB;omega) (by omega) hx
   split
   ·rename_i hl
    have h1:=It idB hlt
    rw[if_pos (show idB _=true by show (Kk _||Dg _)=true;rw[hl];rfl)]at h1
    split
    ·exact hnil
    ·exact hsn _ _ 0 (by omega) (by have:=sp idB;omega)
   split
   ·rename_i hd
    have h1:=It Dg hlt
    rw[if_pos hd]at h1
    split
    ·exact hnil
    split
    ·exact hnil
    ·exact hsn _ _ 1 (by omega) (by have:=sp Dg;omega)
   split
   ·rename_i ht
    unfold aG at ht
    simp only[Bool.and_eq_true,decide_eq_true_eq]at ht
    exact hsn 2 2 2 (by omega) (by omega)
   split
   ·exact hsn 1 1 2 (by omega) (by omega)
   ·exact hnil
theorem cf (s:List UInt8):(rxT s).1.length≤4096∧∀x∈(rxT s).1,x.t.length≤4096:=by
 unfold rxT
 split
 ·exact⟨by simp,by simp⟩
 ·rename_i h
  exact TR s (by simp at h;omega) _ 0 [] (Nat.zero_le _) (Nat.le_refl _) (by simp)
theorem aQ (s:List UInt8) (n:Int):okP (p0 (rxT s).1 n):=⟨Int.le_refl _,by show (0:Int)≤_;omega,(cf s).1,Int.le_refl _,by show (0:Int)≤40;decide,(cf s).2⟩
theorem cg (s:List UInt8) (n:Int):Nx (p0 (rxT s).1 n) (hdP (rxT s).1 n):=BB (aQ s n)
theorem cj (s:List UInt8) (n:Int):Nx (p0 (rxT s).1 n) (hd2 (rxT s).1 n):=by
 have h1:=cg s n
 have h2:=h1.trans (FK h1.ok)
 exact h2.trans (BB h2.ok)
theorem Z0:∀(k:Nat) (l:List Vr) (p:Pr),okP p→Nx p (Pm k l p).2
 |0,l,p,h=>.refl h
 |k+1,l,p,h=>by
  simp only[Pm]
  split
  ·have h1:=cw (t:=[42]) h
   have h2:=h1.trans (Qg (l:=l) (most:=6) h1.ok)
   split
   ·rename_i hi;exact h2.trans (B6 h2.ok hi)
   ·have h3:=h2.trans (BB (t:=[44]) h2.ok)
    exact h3.trans (Z0 k _ _ h3.ok)
  ·exact .refl h
theorem Z1 {p:Pr} (h:okP p):Nx p (SN p).2:=by
 unfold SN;split
 ·rename_i hi;exact B6 h hi
 ·exact Z0 _ _ _ h
theorem TS {p:Pr} (h:UW p=true):p.e=0∧p.i<(p.l.length:Int):=by
 unfold UW at h
 simp only[Bool.or_eq_true]at h
 rcases h with h|h<;>exact B8 h
theorem UY:∀(k:Nat) (l:List Vr) (p:Pr),okP p→Nx p (OB k l p).2
 |0,l,p,h=>.refl h
 |k+1,l,p,h=>by
  simp only[OB]
  split
  ·rename_i hb
   have h1:=Di h (TS hb).2 (TS hb).1
   have h2:=h1.trans (Qg (l:=l) (most:=20) h1.ok)
   have h3:=h2.trans (BB (t:=[59]) h2.ok)
   exact h3.trans (UY k _ _ h3.ok)
  ·exact .refl h
end Go.Proofs.Ytjnnmindcbgjhaa
namespace Go.Sy
open Go Go.RowKit
section
variable {P:Program} {X:Ctx} {w0:World} {n:Nat}
theorem gR {c:Code} {s:St} {Q Q':Exit→St→Prop} (h:Tri (P:=P) X w0 n c s Q) (hq:∀e s,Q e s→Q' e s):Tri (P:=P) X w0 n c s Q':=by
 intro a w hs
 refine Code.wp_mono ?_ (h a w hs)
 rintro e a' w' (⟨s',h1,h2⟩|h)
 ·exact .inl ⟨s',hq e s' h1,h2⟩
 ·exact .inr h
theorem Z2 {a b:Code} {s:St} {Q:Exit→St→Prop} (h:Tri (P:=P) X w0 n a s (Li (fun s'=>Tri (P:=P) X w0 n b s' Q) Q)):Tri (P:=P) X w0 n (.seq a b) s Q:=by
 intro act w hs
 refine wp_seq ?_
 refine Code.wp_mono ?_ (h act w hs)
 rintro e a' w' (⟨s',hq,hs'⟩|⟨ch,rfl,h⟩)
 ·cases e with
  |normal=>exact hq a' w' hs'
  |_=>exact .inl ⟨s',hq,hs'⟩
 ·exact .inr ⟨ch,rfl,h⟩
theorem uT {c:Code} {s t:St} {Q:Exit→St→Prop} (h:Tri (P:=P) X w0 n c t Q) (hs:To X s t):Tri (P:=P) X w0 n c s Q:=fun a w hh=>h a w (hs w0 n a w hh)
theorem RU {Y:Type} {a b:Code} {s:St} {Q:Exit→St→Prop} (J:Y→Prop) (S:Y→St) (sp:List (Spec P X w0)) (g:Gh) (h1:vc X w0 sp n g a s (Li (fun s'=>∃y,J y∧To X s' (S y)) Q)) (h2:∀y,J y→Tri (P:=P) X w0 n b (S y) Q):Tri (P:=P) X w0 n (.seq a b) s Q:=by
 refine Z2 (gR (Au sp g a s _ h1) ?_)
 intro e s' hq
 cases e with
 |normal=>obtain⟨y,hy,hto⟩:=hq;exact uT (h2 y hy) hto
 |_=>exact hq
theorem GM {a b:Code} {s:St} {Q:Exit→St→Prop} (sp:List (Spec P X w0)) (g:Gh) (h1:vc X w0 sp n g a s (Li (fun s'=>Tri (P:=P) X w0 n b s' Q) Q)):Tri (P:=P) X w0 n (.seq a b) s Q:=Z2 (Au sp g a s _ h1)
end
section
variable {P:Program}
theorem cm {f:FuncId} {fn:Func} {c:Code} (hf:P.funcs[f]?=some fn) (hb:fn.body=some c) (w:World) (fz:Nat→Prop) (args:List SV) (hnm:∀v∈args,v.names=[]) (hfz:∀b,fz b→b<w.heap.size)
  (xs:List Value) (hlen:xs.length=args.length) (hx:∀(j:Nat) (v:SV) (x:Value),args[j]?=some v→xs[j]?=some x→CD (hp w) fz v x) (R:SV→Prop)
  (hn:args.length≤fn.ntmps) (h:Tri (P:=P) (clX fz) w fn.ntmps c ⟨I6 0 args,[]⟩ (MD P (clX fz) fn.results.toList (fun _ vs=>(Dk vs).names=[]∧R (Dk vs)))) :
  Calls P f xs.toArray w (JZ w fz R):=by
 refine calls_of_wp hf hb (Code.wp_mono ?_ (h _ w ?_))
 ·rintro e a w' (⟨s,hq,hs⟩|⟨ch,rfl,_,_,I1,l1,f1,H1,_,hpn⟩)
  rotate_left
  ·exact hpn.elim
  have fin:MC P (clX fz) fn.results.toList (fun _ vs=>(Dk vs).names=[]∧R (Dk vs)) s→a.defers=[]∧∃v,(results fn a.tmps).run P w'= .ok v w'∧JZ w fz R (Ending.returned v) w':=by
   rintro ⟨cs,s',vs,h1,h2,h3,h4,h5⟩
   refine⟨hs.defers,?_⟩
   obtain⟨_,I,lab,fz',hA⟩:=FW h1 a w' hs
   obtain⟨x,x1,x2⟩:=JJ hA h2 h3
   refine⟨x,x1,Dk vs,x,fun b=>fz' b∨fz b,rfl,h5,h4,fun b hb=>.inr hb,fun b hb=>?_,fun b hb=>?_,GH (fun b hb=>⟨.inl hb,rfl⟩) h4 x2,hA.m.kept.below (fun _ _ hf=>hf)⟩
   ·rcases hb with hb|hb
    ·rcases hA.m.fzo b hb with h|h|h
     ·exact .inl h
     ·exact .inr h
     ·exact h.elim
    ·exact .inl hb
   ·rcases hb with hb|hb
    ·exact(hA.m.fzl b hb).1
    ·exact Nat.lt_of_lt_of_le (hfz b hb) hA.m.kept.size
  cases e with
  |normal=>exact fin hq
  |ret=>exact fin hq
  |_=>exact hq.elim
 ·have hE0:∀t g v,lkp (I6 0 args) t=some (g,v)→g=true∧args[t]?=some v:=by
   intro t g v ht
   rw[Ft]at ht
   simp only[Nat.zero_le,if_true,Nat.sub_zero,Option.map_eq_some_iff,jP]at ht
   obtain⟨u,hu,rfl,rfl⟩:=ht
   exact⟨rfl,hu⟩
  refine⟨?_,nm0,fun _=>none,fz,?_,⟨rfl,fun p hp=>by cases hp⟩,?_,⟨?_,?_,?_,fun b hb=>⟨hfz b hb,rfl⟩,fun b hb=>.inl hb,Kept.refl _ _,by intro p hp;cases hp⟩⟩
  ·intro t g v ht _
   have:=(hE0 t g v ht).2
   rw[hnm v (List.mem_of_getElem? this)]
   intro k hk;cases hk
  ·simp[hlen];omega
  ·intro t g v ht
   obtain⟨rfl,hv⟩:=hE0 t g v ht
   have hlt:t<args.length:=(List.getElem?_eq_some_iff.1 hv).1
   have hlt2:t<xs.length:=by omega
   refine⟨xs[t],?_,?_⟩
   ·rw[Array.getElem?_append_left (by simpa using hlt2)]
    simp[hlt2]
   ·simp only[if_true]
    exact GH (fun b hb=>⟨hb,rfl⟩) (hnm v (List.mem_of_getElem? hv)) (hx t v _ hv (List.getElem?_eq_getElem hlt2))
  ·intro k ch hk;simp[lkp]at hk
  ·intro k ch hk;simp[lkp]at hk
  ·intro b π hb;cases hb
theorem aR {f:FuncId} {fn:Func} {c:Code} (hf:P.funcs[f]?=some fn) (hb:fn.body=some c) (w:World) (fz:Nat→Prop) {A:Type} (ac:ArgC A) (F:A→SV) (a:A) (xs:List Value) (hfz:∀b,fz b→b<w.heap.size) (hl:xs.length=(ac.e a).length)
  (hx:∀(j:Nat) (v:SV) (x:Value),(ac.e a)[j]?=some v→xs[j]?=some x→CD (hp w) fz v x) (hn:(ac.e a).length≤fn.ntmps)
  (h:Tri (P:=P) (clX fz) w fn.ntmps c ⟨I6 0 (ac.e a),[]⟩ (MD P (clX fz) fn.results.toList (b7 (F a)))):Calls P f xs.toArray w (JZ w fz (fun v=>v=F a)):=
 (cm hf hb w fz (ac.e a) (ac.n a) hfz xs hl hx (fun v=>leV v (F a)) hn h).mono fun _ _ h=>Sd h
end
end Go.Sy
