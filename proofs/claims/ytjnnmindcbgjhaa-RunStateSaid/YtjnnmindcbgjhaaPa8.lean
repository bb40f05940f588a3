/- One statement, walked. No conditions but those in each statement. -/
import Derived.Test.YtjnnmindcbgjhaaSo
import Derived.Test.YtjnnmindcbgjhaaAt
import Derived.Test.YtjnnmindcbgjhaaSy28
set_option linter.unusedVariables false
set_option linter.unusedSimpArgs false
namespace Go.Proofs.Ytjnnmindcbgjhaa
open Go Go.Sy Go.RowKit
attribute [local go_sem] Pr.c Tok.r Ad Ai AS Ah Ag A1u lP lO AQ ptR Af AR Ac OV Xh CW Cv IB AC AV AH A8 AM A7 Iz AG Ay AN zSc zTk
set_option maxRecDepth 20000 in set_option maxHeartbeats 16000000 in
theorem nI (f:Nat) (hu:Mw f):Mw (f+1):=by
 rintro ⟨p,_u⟩ w M I lab fz xs hc hA hl hx
 refine An Try.func77 rfl ((Lk).mem ⟨p,_u⟩) w M I lab fz [AV,A8,AC,AG,AH,A7,IB,Iz,V0,A1B,(Xh f (qF f hu))] [] ((Lk).args 0 ⟨p,_u⟩) ((fun p:(Pr)×Unit=>ES (f+1) p.1) ⟨p,_u⟩) ((fun p:(Pr)×Unit=>F8 (f+1) p.1) ⟨p,_u⟩) xs hA hl hx (fun v hv k hk=>by have:=(Lk).an 0 ⟨p,_u⟩ v hv k hk;omega) (jN rfl) (jN rfl) ?_
 clear hx hl hA xs
 simp only[Try.f77]
 obtain⟨hc1,hc2⟩:=hc
 dsimp only at hc1 hc2
 have hI:=hc1.i
 have hq:=TP hc1
 have hqI:=hq.ok.i
 have hqd:=WV hq hc2
 cases hk:(aQ p&&decide (200≤p.n)) with
 |true=>
  have hr:C1 (f+1) p=(sm0 p.n,CJ 53 p):=by simp only[C1];rw[if_pos hk]
  simp only[aQ]at hk
  simp only[↓eB,seval,go_sem,↓CE,↓Cr,↓Cs,↓DI,hk]
  try simp only[A3,A4]
  repeat' first|exact ck|with_reducible apply And.intro|intro _
  all_goals first|exact hI|exact hc1|(rename_i h;first|exact oI h|exact nah h)|(rename_i _ h _ g;exact sL h g)|decide|omega|(refine A0 [] ?_;simp only[↓eB,seval,go_sem,bne,F8,ES,hr,arS,smS,↓CE,↓Cr,↓Cs,↓DI,sm0,Sm.c,Sm.k,Sm.x,Sm.y,Sm.e,Sm.f,Sm.cd,Sm.ar,Sm.th,Sm.el,Sm.no,AZ,Aq,Jb,ifB,ifC])
 |false=>
 have hr0:C1 (f+1) p=II (C1 f) p.n (nxt p):=by simp only[C1];rw[if_neg (by rw[hk];decide)]
 simp only[aQ]at hk
 cases i1:isT fb (nxt p) with
 |true=>
  have j1:=i1
  simp only[nxt]at j1
  have hr:C1 (f+1) p=(.mk 9 [] [] (exS (adv (nxt p))).1 .nil .nil [] [] [] p.n,B2 [59] (exS (adv (nxt p))).2):=by rw[hr0];simp[II,i1]
  have ha:=B7 hq.ok i1
  have hs:=E8 ha.ok
  have hd:=LL ha.ok
  simp only[↓eB,seval,go_sem,↓CE,↓Cr,↓Cs,↓DI,hk,j1,BC,adv]
  try simp only[A3,A4]
  repeat' first|exact ck|with_reducible apply And.intro|intro _
  all_goals first|exact hI|exact hc1|exact hq.ok|exact hqI|exact hqd|exact ha.ok|exact hd|exact hs.ok|(rename_i h;first|exact oI h|exact nah h)|(rename_i _ h _ g;exact sL h g)|decide|omega|(refine A0 [] ?_;simp only[↓eB,seval,go_sem,bne,F8,ES,hr,arS,smS,↓CE,↓Cr,↓Cs,↓DI,nxt,adv,Sm.c,Sm.k,Sm.x,Sm.y,Sm.e,Sm.f,Sm.cd,Sm.ar,Sm.th,Sm.el,Sm.no,AZ,Aq,Jb,ifB,ifC])
 |false=>
 have j1:=i1
 simp only[nxt]at j1
 cases i2:isT fc (nxt p) with
 |true=>
  have j2:=i2
  simp only[nxt]at j2
  have hr:C1 (f+1) p=(.mk 12 [] [] .nil .nil (ifC (nxt p)).1 [] [] [] p.n,B2 [59] (B2 [41] (ifC (nxt p)).2)):=by rw[hr0];simp[II,i1,i2]
  have ha:=B7 hq.ok i2
  have hw:=BE (t:=[40]) ha.ok
  have hd:=LL hw.ok
  have hcd:=R0 hw.ok
  have hw2:=BE (t:=[41]) hcd.ok
  simp only[↓eB,seval,go_sem,↓CE,↓Cr,↓Cs,↓DI,hk,j1,j2,BC,adv]
  try simp only[A3,A4]
  repeat' first|exact ck|with_reducible apply And.intro|intro _
  all_goals first|exact hI|exact hc1|exact hq.ok|exact hqI|exact hqd|exact ha.ok|exact hd|exact hw.ok|exact hcd.ok|exact hw2.ok|(rename_i h;first|exact oI h|exact nah h)|(rename_i _ h _ g;exact sL h g)|decide|omega|(refine A0 [] ?_;simp only[↓eB,seval,go_sem,bne,F8,ES,hr,arS,smS,↓CE,↓Cr,↓Cs,↓DI,nxt,adv,Sm.c,Sm.k,Sm.x,Sm.y,Sm.e,Sm.f,Sm.cd,Sm.ar,Sm.th,Sm.el,Sm.no,AZ,Aq,Jb,ifB,ifC])
 |false=>
 have j2:=i2
 simp only[nxt]at j2
 cases i3:isT fe (nxt p) with
 |true=>
  have j3:=i3
  simp only[nxt]at j3
  have hr:C1 (f+1) p=(.mk 11 [] [] .nil .nil (ifC (nxt p)).1 [] (ifB (blkW (C1 f)) (nxt p)).1 [] p.n,(ifB (blkW (C1 f)) (nxt p)).2):=by rw[hr0];simp[II,i1,i2,i3]
  have ha:=B7 hq.ok i3
  have hw:=BE (t:=[40]) ha.ok
  have hd:=LL hw.ok
  have hcd:=R0 hw.ok
  have hw2:=BE (t:=[41]) hcd.ok
  have hdd:=WV (((ha.trans hw).trans hcd).trans hw2) hqd
  simp only[↓eB,seval,go_sem,↓CE,↓Cr,↓Cs,↓DI,hk,j1,j2,j3,BC,adv]
  try simp only[A3,A4]
  repeat' first|exact ck|with_reducible apply And.intro|intro _
  all_goals first|exact hI|exact hc1|exact hq.ok|exact hqI|exact hqd|exact ha.ok|exact hd|exact hw.ok|exact hcd.ok|exact hw2.ok|exact hdd|(rename_i h;first|exact oI h|exact nah h)|(rename_i _ h _ g;exact sL h g)|decide|omega|(refine A0 [] ?_;simp only[↓eB,seval,go_sem,bne,F8,ES,hr,arS,smS,↓CE,↓Cr,↓Cs,↓DI,nxt,adv,Sm.c,Sm.k,Sm.x,Sm.y,Sm.e,Sm.f,Sm.cd,Sm.ar,Sm.th,Sm.el,Sm.no,AZ,Aq,Jb,ifB,ifC])
 |false=>
 have j3:=i3
 simp only[nxt]at j3
 cases i4:isT tIf (nxt p) with
 |true=>
  have j4:=i4
  simp only[nxt]at j4
  have ha:=B7 hq.ok i4
  have hw:=BE (t:=[40]) ha.ok
  have hd:=LL hw.ok
  have hcd:=R0 hw.ok
  have hw2:=BE (t:=[41]) hcd.ok
  have hnn:=((ha.trans hw).trans hcd).trans hw2
  have hdd:=WV hnn hqd
  have hb:=Oh (N9 f) hw2.ok
  cases i5:isT kV (ifB (blkW (C1 f)) (nxt p)).2 with
  |true=>
   have hr:C1 (f+1) p=(.mk 10 [] [] .nil .nil (ifC (nxt p)).1 [] (ifB (blkW (C1 f)) (nxt p)).1 (blkW (C1 f) (adv (ifB (blkW (C1 f)) (nxt p)).2)).1 p.n,(blkW (C1 f) (adv (ifB (blkW (C1 f)) (nxt p)).2)).2):=by rw[hr0];simp[II,i1,i2,i3,i4,i5]
   have hb2:=B7 hb.ok i5
   have hde:=WV ((hnn.trans hb).trans hb2) hqd
   have j5:=i5
   simp only[nxt,ifB,ifC,adv]at j5
   simp only[↓eB,seval,go_sem,↓CE,↓Cr,↓Cs,↓DI,hk,j1,j2,j3,j4,j5,BC,adv]
   try simp only[A3,A4]
   repeat' first|exact ck|with_reducible apply And.intro|intro _
   all_goals first|exact hI|exact hc1|exact hq.ok|exact hqI|exact hqd|exact ha.ok|exact hd|exact hw.ok|exact hcd.ok|exact hw2.ok|exact hdd|exact hb.ok|exact hb2.ok|exact hde|(rename_i h;first|exact oI h|exact nah h)|(rename_i _ h _ g;exact sL h g)|decide|omega|(refine A0 [] ?_;simp only[↓eB,seval,go_sem,bne,F8,ES,hr,arS,smS,↓CE,↓Cr,↓Cs,↓DI,nxt,adv,Sm.c,Sm.k,Sm.x,Sm.y,Sm.e,Sm.f,Sm.cd,Sm.ar,Sm.th,Sm.el,Sm.no,AZ,Aq,Jb,ifB,ifC])
  |false=>
   have hr:C1 (f+1) p=(.mk 10 [] [] .nil .nil (ifC (nxt p)).1 [] (ifB (blkW (C1 f)) (nxt p)).1 [] p.n,(ifB (blkW (C1 f)) (nxt p)).2):=by rw[hr0];simp[II,i1,i2,i3,i4,i5]
   have j5:=i5
   simp only[nxt,ifB,ifC,adv]at j5
   simp only[↓eB,seval,go_sem,↓CE,↓Cr,↓Cs,↓DI,hk,j1,j2,j3,j4,j5,BC,adv]
   try simp only[A3,A4]
   repeat' first|exact ck|with_reducible apply And.intro|intro _
   all_goals first|exact hI|exact hc1|exact hq.ok|exact hqI|exact hqd|exact ha.ok|exact hd|exact hw.ok|exact hcd.ok|exact hw2.ok|exact hdd|exact hb.ok|(rename_i h;first|exact oI h|exact nah h)|(rename_i _ h _ g;exact sL h g)|decide|omega|(refine A0 [] ?_;simp only[↓eB,seval,go_sem,bne,F8,ES,hr,arS,smS,↓CE,↓Cr,↓Cs,↓DI,nxt,adv,Sm.c,Sm.k,Sm.x,Sm.y,Sm.e,Sm.f,Sm.cd,Sm.ar,Sm.th,Sm.el,Sm.no,AZ,Aq,Jb,ifB,ifC])
 |false=>
 have j4:=i4
 simp only[nxt]at j4
 cases i6:isT [42] (nxt p) with
 |true=>
  have j6:=i6
  simp only[nxt]at j6
  have hr:C1 (f+1) p=(.mk 5 (Cz (adv (nxt p))) [] (exS (B2 [61] (BX (adv (nxt p))))).1 .nil .nil [] [] [] p.n,B2 [59] (exS (B2 [61] (BX (adv (nxt p))))).2):=by rw[hr0];simp[II,i1,i2,i3,i4,i6]
  have ha:=B7 hq.ok i6
  have hn:=FP ha.ok
  have hw:=BE (t:=[61]) hn.ok
  have hd:=LL hw.ok
  have hs:=E8 hw.ok
  simp only[↓eB,seval,go_sem,↓CE,↓Cr,↓Cs,↓DI,hk,j1,j2,j3,j4,j6,BC,adv]
  try simp only[A3,A4]
  repeat' first|exact ck|with_reducible apply And.intro|intro _
  all_goals first|exact hI|exact hc1|exact hq.ok|exact hqI|exact hqd|exact ha.ok|exact hn.ok|exact hd|exact hw.ok|exact hs.ok|(rename_i h;first|exact oI h|exact nah h)|(rename_i _ h _ g;exact sL h g)|decide|omega|(refine A0 [] ?_;simp only[↓eB,seval,go_sem,bne,F8,ES,hr,arS,smS,↓CE,↓Cr,↓Cs,↓DI,nxt,adv,Sm.c,Sm.k,Sm.x,Sm.y,Sm.e,Sm.f,Sm.cd,Sm.ar,Sm.th,Sm.el,Sm.no,AZ,Aq,Jb,ifB,ifC])
 |false=>
 have j6:=i6
 simp only[nxt]at j6
 have hn:=FP hq.ok
 cases i7:isT [40] (BX (nxt p)) with
 |true=>
  have j7:=i7
  simp only[nxt]at j7
  have hr:C1 (f+1) p=(.mk 8 [] (Cz (nxt p)) .nil .nil .nil (H4 (adv (BX (nxt p)))).1 [] [] p.n,B2 [59] (H4 (adv (BX (nxt p)))).2):=by rw[hr0];simp[II,i1,i2,i3,i4,i6,i7]
  have ha:=B7 hn.ok i7
  have hs:=Rq ha.ok
  simp only[↓eB,seval,go_sem,↓CE,↓Cr,↓Cs,↓DI,hk,j1,j2,j3,j4,j6,j7,BC,adv]
  try simp only[A3,A4]
  repeat' first|exact ck|with_reducible apply And.intro|intro _
  all_goals first|exact hI|exact hc1|exact hq.ok|exact hqI|exact hqd|exact ha.ok|exact hn.ok|exact hs.ok|(rename_i h;first|exact oI h|exact nah h)|(rename_i _ h _ g;exact sL h g)|decide|omega|(refine A0 [] ?_;simp only[↓eB,seval,go_sem,bne,F8,ES,hr,arS,smS,↓CE,↓Cr,↓Cs,↓DI,nxt,adv,Sm.c,Sm.k,Sm.x,Sm.y,Sm.e,Sm.f,Sm.cd,Sm.ar,Sm.th,Sm.el,Sm.no,AZ,Aq,Jb,ifB,ifC])
 |false=>
 have j7:=i7
 simp only[nxt]at j7
 cases i8:isT [91] (BX (nxt p)) with
 |true=>
  have j8:=i8
  simp only[nxt]at j8
  have hr:C1 (f+1) p=(.mk 7 [] (Cz (nxt p)) (exS (adv (BX (nxt p)))).1 (exS (B2 [61] (B2 [93] (exS (adv (BX (nxt p)))).2))).1 .nil [] [] [] p.n,B2 [59] (exS (B2 [61] (B2 [93] (exS (adv (BX (nxt p)))).2))).2):=by rw[hr0];simp[II,i1,i2,i3,i4,i6,i7,i8]
  have ha:=B7 hn.ok i8
  have hd:=LL ha.ok
  have hs:=E8 ha.ok
  have hw:=BE (t:=[93]) hs.ok
  have hw2:=BE (t:=[61]) hw.ok
  have hd2:=LL hw2.ok
  have hs2:=E8 hw2.ok
  simp only[↓eB,seval,go_sem,↓CE,↓Cr,↓Cs,↓DI,hk,j1,j2,j3,j4,j6,j7,j8,BC,adv]
  try simp only[A3,A4]
  repeat' first|exact ck|with_reducible apply And.intro|intro _
  all_goals first|exact hI|exact hc1|exact hq.ok|exact hqI|exact hqd|exact ha.ok|exact hn.ok|exact hd|exact hs.ok|exact hw.ok|exact hw2.ok|exact hd2|exact hs2.ok|(rename_i h;first|exact oI h|exact nah h)|(rename_i _ h _ g;exact sL h g)|decide|omega|(refine A0 [] ?_;simp only[↓eB,seval,go_sem,bne,F8,ES,hr,arS,smS,↓CE,↓Cr,↓Cs,↓DI,nxt,adv,Sm.c,Sm.k,Sm.x,Sm.y,Sm.e,Sm.f,Sm.cd,Sm.ar,Sm.th,Sm.el,Sm.no,AZ,Aq,Jb,ifB,ifC])
 |false=>
 have j8:=i8
 simp only[nxt]at j8
 have hr:C1 (f+1) p=(.mk (EZ (B2 [61] (BX (nxt p)))).1.k (Cz (nxt p)) (EZ (B2 [61] (BX (nxt p)))).1.y (EZ (B2 [61] (BX (nxt p)))).1.e .nil .nil ((EZ (B2 [61] (BX (nxt p)))).1.a.getD []) [] [] p.n,B2 [59] (EZ (B2 [61] (BX (nxt p)))).2):=by rw[hr0];simp[II,i1,i2,i3,i4,i6,i7,i8]
 have hw:=BE (t:=[61]) hn.ok
 have hv:=Wv hw.ok
 simp only[↓eB,seval,go_sem,↓CE,↓Cr,↓Cs,↓DI,hk,j1,j2,j3,j4,j6,j7,j8,BC,adv]
 try simp only[A3,A4]
 repeat' first|exact ck|with_reducible apply And.intro|intro _
 all_goals first|exact hI|exact hc1|exact hq.ok|exact hqI|exact hqd|exact hn.ok|exact hw.ok|exact hv.ok|(rename_i h;first|exact oI h|exact nah h)|(rename_i _ h _ g;exact sL h g)|decide|omega|(refine A0 [] ?_;simp only[↓eB,seval,go_sem,bne,F8,ES,hr,arS,smS,↓CE,↓Cr,↓Cs,↓DI,nxt,adv,Sm.c,Sm.k,Sm.x,Sm.y,Sm.e,Sm.f,Sm.cd,Sm.ar,Sm.th,Sm.el,Sm.no,AZ,Aq,Jb,ifB,ifC])
theorem dK:∀f:Nat,Mw f
 |0=>by
  rintro ⟨p,_u⟩ w M I lab fz xs hc hA hl hx
  obtain⟨h1,h2⟩:=hc
  have h3:p.deep≤40:=h1.2.2.2.2.1
  have h4:41≤p.deep+((0:Nat):Int):=h2
  exact absurd h4 (by simp;omega)
 |f+1=>nI f (dK f)
noncomputable abbrev IU {X:Ctx} {w0:World}:Sy.Spec Try.prog X w0:=QK 41 (Zq 41 (dK 41))
end Go.Proofs.Ytjnnmindcbgjhaa
namespace Go.Proofs.Ytjnnmindcbgjhaa
open Go Go.Sy Go.RowKit
def XA (l:List Vr) (most:Int) (p:Pr):Bool:=nameB p&&decide (most≤(l.length:Int))
def IK (l:List Vr) (ptr:Bool) (most:Int) (p:Pr):List Vr:=if XA l most p=true then l else l++[⟨Cz p,ptr⟩]
def FU (l:List Vr) (most:Int) (p:Pr):Pr:=if XA l most p=true then CJ 53 p else BX p
theorem Qx {l:List Vr} {most:Int} {p:Pr} (h:okP p):Nx p (FU l most p):=by
 unfold FU;split
 ·exact F2 53 h
 ·exact FP h
theorem Q1 (l:List Vr) (ptr:Bool) (most:Int) (p:Pr):(IK l ptr most p).length≤l.length+1:=by unfold IK;split<;>simp
def Q3:Nat→List Vr→Pr→R (List Vr)
 |0,l,p=>(l,p)
 |k+1,l,p=>
  if (p.e==0)=true then
   (
    if isT [41] (FU l 6 (BC [42] p))=true then (IK l (isT [42] p) 6 (BC [42] p),adv (FU l 6 (BC [42] p)))
    else Q3 k (IK l (isT [42] p) 6 (BC [42] p)) (B2 [44] (FU l 6 (BC [42] p))))
  else (l,p)
def Sh (p:Pr):R (List Vr):=if isT [41] p=true then ([],adv p) else Q3 (p.l.length+1) [] p
def Um (p:Pr):Bool:=isT A6L p||isT tPtr p
def OS:Nat→List Vr→Pr→R (List Vr)
 |0,l,p=>(l,p)
 |k+1,l,p=>
  if Um p=true then OS k (IK l (isT tPtr p) 20 (adv p)) (B2 [59] (FU l 20 (adv p)))
  else (l,p)
def Uo (p:Pr):R (List Vr):=OS p.l.length [] p
def MN (p:Pr):Pr:=if isT [123] p=true then (if Es p=true then adv (Bm p) else CJ 51 (Bm p)) else CJ 51 p
def Si (p:Pr):Pr:=if (p.e==0&&decide (p.i<(p.l.length:Int)))=true then CJ 51 p else p
def p0 (l:List Tok) (n:Int):Pr:=⟨l,0,n,0,0,0,0⟩
def hdP (l:List Tok) (n:Int):Pr:=B2 tFn (p0 l n)
def hd2 (l:List Tok) (n:Int):Pr:=B2 [40] (BX (hdP l n))
def fp3 (l:List Tok) (n:Int):R (List Vr):=Sh (hd2 l n)
def fp4 (l:List Tok) (n:Int):R (List Vr):=Uo (MN (fp3 l n).2)
def fp5 (l:List Tok) (n:Int):R (List Sm):=A6M (fp4 l n).2
def fp6 (l:List Tok) (n:Int):Pr:=Si (fp5 l n).2
def FV (s:List UInt8):Fn×Int×Int:=
 if (rxT s).2.2 != 0 then (fn0,(rxT s).2.1,(rxT s).2.2)
 else if (fp6 (rxT s).1 (s.length:Int)).e != 0 then (fn0,(fp6 (rxT s).1 (s.length:Int)).at',(fp6 (rxT s).1 (s.length:Int)).e)
 else (⟨Cz (hdP (rxT s).1 (s.length:Int)),(fp3 (rxT s).1 (s.length:Int)).1,(fp4 (rxT s).1 (s.length:Int)).1,(fp5 (rxT s).1 (s.length:Int)).1⟩,0,0)
theorem Tk (s:List UInt8) (hs:s.length≤4096):∀(f i:Nat) (out:List Tok),i≤s.length→out.length≤i→(∀x∈out,x.t.length≤4096)→(rxF s f i out).1.length≤4096∧∀x∈(rxF s f i out).1,x.t.length≤4096
 |0,i,out,hi,ho,hx=>⟨by show out.length≤4096;omega,hx⟩
 |f+1,i,out,hi,ho,hx=>by
  have hnil:([]:List Tok).length≤4096∧∀x∈([]:List Tok),x.t.length≤4096:=⟨by simp,by simp⟩
  have hsn:∀(k n:Nat) (kd:Int),0<n→i+n≤s.length→(rxF s f (i+n) (out++[⟨kd,(s.drop i).take k,(i:Int)⟩])).1.length≤4096∧∀x∈(rxF s f (i+n) (out++[⟨kd,(s.drop i).take k,(i:Int)⟩])).1,x.t.length≤4096:=by
   intro k n kd hn hin
   refine Tk s hs f (i+n) _ hin (by simp;omega) ?_
   intro x hxm
   rcases List.mem_append.1 hxm with h|h
   ·exact hx x h
   ·simp only[List.mem_singleton]at h;subst h;simp only[List.length_take,List.length_drop];omega
  simp only[rxF]
  split
  ·exact⟨by show out.length≤4096;omega,hx⟩
  ·rename_i hlt
   have hlt:i<s.length:=by omega
   have sp:=fun p=>O7 p (s.drop i)
   simp only[List.length_drop]at sp
   split
   ·exact Tk s hs f _ _ (by omega) (by omega) hx
   split
   ·exact Tk s hs f _ _ (by have:=sp nlB;omega) (by omega) hx
   split
   ·rename_i hl
    have h1:=J7 idB hlt
    rw[if_pos (show idB _=true by show (L2 _||Df _)=true;rw[hl];rfl)]at h1
    split
    ·exact hnil
    ·exact hsn _ _ 0 (by omega) (by have:=sp idB;omega)
   split
   ·rename_i hd
    have h1:=J7 Df hlt
    rw[if_pos hd]at h1
    split
    ·exact hnil
    split
    ·exact hnil
    ·exact hsn _ _ 1 (by omega) (by have:=sp Df;omega)
   split
   ·rename_i ht
    unfold aZ at ht
    simp only[Bool.and_eq_true,decide_eq_true_eq]at ht
    exact hsn 2 2 2 (by omega) (by omega)
   split
   ·exact hsn 1 1 2 (by omega) (by omega)
   ·exact hnil
theorem dL (s:List UInt8):(rxT s).1.length≤4096∧∀x∈(rxT s).1,x.t.length≤4096:=by
 unfold rxT
 split
 ·exact⟨by simp,by simp⟩
 ·rename_i h
  exact Tk s (by simp at h;omega) _ 0 [] (Nat.zero_le _) (Nat.le_refl _) (by simp)
theorem b7 (s:List UInt8) (n:Int):okP (p0 (rxT s).1 n):=⟨Int.le_refl _,by show (0:Int)≤_;omega,(dL s).1,Int.le_refl _,by show (0:Int)≤40;decide,(dL s).2⟩
theorem dM (s:List UInt8) (n:Int):Nx (p0 (rxT s).1 n) (hdP (rxT s).1 n):=BE (b7 s n)
theorem dO (s:List UInt8) (n:Int):Nx (p0 (rxT s).1 n) (hd2 (rxT s).1 n):=by
 have h1:=dM s n
 have h2:=h1.trans (FP h1.ok)
 exact h2.trans (BE h2.ok)
theorem ZD:∀(k:Nat) (l:List Vr) (p:Pr),okP p→Nx p (Q3 k l p).2
 |0,l,p,h=>.refl h
 |k+1,l,p,h=>by
  simp only[Q3]
  split
  ·have h1:=dX (t:=[42]) h
   have h2:=h1.trans (Qx (l:=l) (most:=6) h1.ok)
   split
   ·rename_i hi;exact h2.trans (B7 h2.ok hi)
   ·have h3:=h2.trans (BE (t:=[44]) h2.ok)
    exact h3.trans (ZD k _ _ h3.ok)
  ·exact .refl h
theorem ZE {p:Pr} (h:okP p):Nx p (Sh p).2:=by
 unfold Sh;split
 ·rename_i hi;exact B7 h hi
 ·exact ZD _ _ _ h
theorem Tl {p:Pr} (h:Um p=true):p.e=0∧p.i<(p.l.length:Int):=by
 unfold Um at h
 simp only[Bool.or_eq_true]at h
 rcases h with h|h<;>exact BB h
theorem Up:∀(k:Nat) (l:List Vr) (p:Pr),okP p→Nx p (OS k l p).2
 |0,l,p,h=>.refl h
 |k+1,l,p,h=>by
  simp only[OS]
  split
  ·rename_i hb
   have h1:=Dh h (Tl hb).2 (Tl hb).1
   have h2:=h1.trans (Qx (l:=l) (most:=20) h1.ok)
   have h3:=h2.trans (BE (t:=[59]) h2.ok)
   exact h3.trans (Up k _ _ h3.ok)
  ·exact .refl h
end Go.Proofs.Ytjnnmindcbgjhaa
namespace Go.Sy
open Go Go.RowKit
section
variable {P:Program} {X:Ctx} {w0:World} {n:Nat}
theorem gi {c:Code} {s:St} {Q Q':Exit→St→Prop} (h:Tri (P:=P) X w0 n c s Q) (hq:∀e s,Q e s→Q' e s):Tri (P:=P) X w0 n c s Q':=by
 intro a w hs
 refine Code.wp_mono ?_ (h a w hs)
 rintro e a' w' (⟨s',h1,h2⟩|h)
 ·exact .inl ⟨s',hq e s' h1,h2⟩
 ·exact .inr h
theorem ZF {a b:Code} {s:St} {Q:Exit→St→Prop} (h:Tri (P:=P) X w0 n a s (M0 (fun s'=>Tri (P:=P) X w0 n b s' Q) Q)):Tri (P:=P) X w0 n (.seq a b) s Q:=by
 intro act w hs
 refine wp_seq ?_
 refine Code.wp_mono ?_ (h act w hs)
 rintro e a' w' (⟨s',hq,hs'⟩|⟨ch,rfl,h⟩)
 ·cases e with
  |normal=>exact hq a' w' hs'
  |_=>exact .inl ⟨s',hq,hs'⟩
 ·exact .inr ⟨ch,rfl,h⟩
theorem uf {c:Code} {s t:St} {Q:Exit→St→Prop} (h:Tri (P:=P) X w0 n c t Q) (hs:To X s t):Tri (P:=P) X w0 n c s Q:=fun a w hh=>h a w (hs w0 n a w hh)
theorem Rm {Y:Type} {a b:Code} {s:St} {Q:Exit→St→Prop} (J:Y→Prop) (S:Y→St) (sp:List (Spec P X w0)) (g:Gh) (h1:vc X w0 sp n g a s (M0 (fun s'=>∃y,J y∧To X s' (S y)) Q)) (h2:∀y,J y→Tri (P:=P) X w0 n b (S y) Q):Tri (P:=P) X w0 n (.seq a b) s Q:=by
 refine ZF (gi (Ak sp g a s _ h1) ?_)
 intro e s' hq
 cases e with
 |normal=>obtain⟨y,hy,hto⟩:=hq;exact uf (h2 y hy) hto
 |_=>exact hq
theorem GZ {a b:Code} {s:St} {Q:Exit→St→Prop} (sp:List (Spec P X w0)) (g:Gh) (h1:vc X w0 sp n g a s (M0 (fun s'=>Tri (P:=P) X w0 n b s' Q) Q)):Tri (P:=P) X w0 n (.seq a b) s Q:=ZF (Ak sp g a s _ h1)
end
section
variable {P:Program}
theorem dP {f:FuncId} {fn:Func} {c:Code} (hf:P.funcs[f]?=some fn) (hb:fn.body=some c) (w:World) (fz:Nat→Prop) (args:List SV) (hnm:∀v∈args,v.names=[]) (hfz:∀b,fz b→b<w.heap.size)
  (xs:List Value) (hlen:xs.length=args.length) (hx:∀(j:Nat) (v:SV) (x:Value),args[j]?=some v→xs[j]?=some x→CD (hp w) fz v x) (R:SV→Prop)
  (hn:args.length≤fn.ntmps) (h:Tri (P:=P) (clX fz) w fn.ntmps c ⟨IP 0 args,[]⟩ (MW P (clX fz) fn.results.toList (fun _ vs=>(Dj vs).names=[]∧R (Dj vs)))) :
  Calls P f xs.toArray w (Jn w fz R):=by
 refine calls_of_wp hf hb (Code.wp_mono ?_ (h _ w ?_))
 ·rintro e a w' (⟨s,hq,hs⟩|⟨ch,rfl,_,_,I1,l1,f1,H1,_,hpn⟩)
  rotate_left
  ·exact hpn.elim
  have fin:MU P (clX fz) fn.results.toList (fun _ vs=>(Dj vs).names=[]∧R (Dj vs)) s→a.defers=[]∧∃v,(results fn a.tmps).run P w'= .ok v w'∧Jn w fz R (Ending.returned v) w':=by
   rintro ⟨cs,s',vs,h1,h2,h3,h4,h5⟩
   refine⟨hs.defers,?_⟩
   obtain⟨_,I,lab,fz',hA⟩:=Fg h1 a w' hs
   obtain⟨x,x1,x2⟩:=JU hA h2 h3
   refine⟨x,x1,Dj vs,x,fun b=>fz' b∨fz b,rfl,h5,h4,fun b hb=>.inr hb,fun b hb=>?_,fun b hb=>?_,GT (fun b hb=>⟨.inl hb,rfl⟩) h4 x2,hA.m.kept.below (fun _ _ hf=>hf)⟩
   ·rcases hb with hb|hb
    ·rcases hA.m.fzo b hb with h|h|h
     ·exact .inl h
     ·exact .inr h
     ·exact h.elim
    ·exact .inl hb
   ·rcases hb with hb|hb
    ·exact(hA.m.fzl b hb).1
    ·exact Nat.lt_of_lt_of_le (hfz b hb) hA.m.kept.size
  cases e with
  |normal=>exact fin hq
  |ret=>exact fin hq
  |_=>exact hq.elim
 ·have hE0:∀t g v,lkp (IP 0 args) t=some (g,v)→g=true∧args[t]?=some v:=by
   intro t g v ht
   rw[G3]at ht
   simp only[Nat.zero_le,if_true,Nat.sub_zero,Option.map_eq_some_iff,jP]at ht
   obtain⟨u,hu,rfl,rfl⟩:=ht
   exact⟨rfl,hu⟩
  refine⟨?_,nm0,fun _=>none,fz,?_,⟨rfl,fun p hp=>by cases hp⟩,?_,⟨?_,?_,?_,fun b hb=>⟨hfz b hb,rfl⟩,fun b hb=>.inl hb,Kept.refl _ _,by intro p hp;cases hp⟩⟩
  ·intro t g v ht _
   have:=(hE0 t g v ht).2
   rw[hnm v (List.mem_of_getElem? this)]
   intro k hk;cases hk
  ·simp[hlen];omega
  ·intro t g v ht
   obtain⟨rfl,hv⟩:=hE0 t g v ht
   have hlt:t<args.length:=(List.getElem?_eq_some_iff.1 hv).1
   have hlt2:t<xs.length:=by omega
   refine⟨xs[t],?_,?_⟩
   ·rw[Array.getElem?_append_left (by simpa using hlt2)]
    simp[hlt2]
   ·simp only[if_true]
    exact GT (fun b hb=>⟨hb,rfl⟩) (hnm v (List.mem_of_getElem? hv)) (hx t v _ hv (List.getElem?_eq_getElem hlt2))
  ·intro k ch hk;simp[lkp]at hk
  ·intro k ch hk;simp[lkp]at hk
  ·intro b π hb;cases hb
theorem b8 {f:FuncId} {fn:Func} {c:Code} (hf:P.funcs[f]?=some fn) (hb:fn.body=some c) (w:World) (fz:Nat→Prop) {A:Type} (ac:ArgC A) (F:A→SV) (a:A) (xs:List Value) (hfz:∀b,fz b→b<w.heap.size) (hl:xs.length=(ac.e a).length)
  (hx:∀(j:Nat) (v:SV) (x:Value),(ac.e a)[j]?=some v→xs[j]?=some x→CD (hp w) fz v x) (hn:(ac.e a).length≤fn.ntmps)
  (h:Tri (P:=P) (clX fz) w fn.ntmps c ⟨IP 0 (ac.e a),[]⟩ (MW P (clX fz) fn.results.toList (bS (F a)))):Calls P f xs.toArray w (Jn w fz (fun v=>v=F a)):=
 (dP hf hb w fz (ac.e a) (ac.n a) hfz xs hl hx (fun v=>leV v (F a)) hn h).mono fun _ _ h=>T1 h
end
end Go.Sy
