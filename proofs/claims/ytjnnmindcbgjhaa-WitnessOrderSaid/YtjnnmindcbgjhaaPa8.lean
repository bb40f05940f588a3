/- One statement, walked. No conditions but those in each statement. -/
import Derived.Test.YtjnnmindcbgjhaaSo
import Derived.Test.YtjnnmindcbgjhaaAt
import Derived.Test.YtjnnmindcbgjhaaSy28
set_option linter.unusedVariables false
set_option linter.unusedSimpArgs false
namespace Go.Proofs.Ytjnnmindcbgjhaa
open Go Go.Sy Go.RowKit
attribute [local go_sem] Pr.c Tok.r Aa Ag AQ Af Ae zf ir iq AO ptR Ad AP AZ Nf W8 CP Ct HQ AC AR AH A8 AM A7 IC AG As AN zSc zTk
set_option maxRecDepth 20000 in set_option maxHeartbeats 16000000 in
theorem kB (f:Nat) (hu:M6 f):M6 (f+1):=by
 rintro ⟨p,_u⟩ w M I lab fz xs hc hA hl hx
 refine BQ Try.func77 rfl ((Ku).mem ⟨p,_u⟩) w M I lab fz [AR,A8,AC,AG,AH,A7,HQ,IC,TV,yu,(W8 f (ml f hu))] [] ((Ku).args 0 ⟨p,_u⟩) ((fun p:(Pr)×Unit=>EG (f+1) p.1) ⟨p,_u⟩) ((fun p:(Pr)×Unit=>Er (f+1) p.1) ⟨p,_u⟩) xs hA hl hx (fun v hv k hk=>by have:=(Ku).an 0 ⟨p,_u⟩ v hv k hk;omega) (jN rfl) (jN rfl) ?_
 clear hx hl hA xs
 simp only[Try.f77]
 obtain⟨hc1,hc2⟩:=hc
 dsimp only at hc1 hc2
 have hI:=hc1.i
 have hq:=VM hc1
 have hqI:=hq.ok.i
 have hqd:=Uw hq hc2
 cases hk:(VL p&&decide (200≤p.n)) with
 |true=>
  have hr:B6 (f+1) p=(sm0 p.n,C7 53 p):=by simp only[B6];rw[if_pos hk]
  simp only[VL]at hk
  simp only[↓eB,seval,go_sem,↓C9,↓Co,↓Cp,↓DB,hk]
  try simp only[A3,A4]
  repeat' first|exact ck|with_reducible apply And.intro|intro _
  all_goals first|exact hI|exact hc1|(rename_i h;first|exact oI h|exact nah h)|(rename_i _ h _ g;exact sL h g)|decide|omega|(refine A0 [] ?_;simp only[↓eB,seval,go_sem,bne,Er,EG,hr,arS,smS,↓C9,↓Co,↓Cp,↓DB,sm0,Sm.c,Sm.k,Sm.x,Sm.y,Sm.e,Sm.f,Sm.cd,Sm.ar,Sm.th,Sm.el,Sm.no,AV,Am,Iw,ifB,ifC])
 |false=>
 have hr0:B6 (f+1) p=Et (B6 f) p.n (nxt p):=by simp only[B6];rw[if_neg (by rw[hk];decide)]
 simp only[VL]at hk
 cases i1:isT TC (nxt p) with
 |true=>
  have j1:=i1
  simp only[nxt]at j1
  have hr:B6 (f+1) p=(.mk 9 [] [] (exS (adv (nxt p))).1 .nil .nil [] [] [] p.n,AX [59] (exS (adv (nxt p))).2):=by rw[hr0];simp[Et,i1]
  have ha:=B8 hq.ok i1
  have hs:=Dr ha.ok
  have hd:=KR ha.ok
  simp only[↓eB,seval,go_sem,↓C9,↓Co,↓Cp,↓DB,hk,j1,Az,adv]
  try simp only[A3,A4]
  repeat' first|exact ck|with_reducible apply And.intro|intro _
  all_goals first|exact hI|exact hc1|exact hq.ok|exact hqI|exact hqd|exact ha.ok|exact hd|exact hs.ok|(rename_i h;first|exact oI h|exact nah h)|(rename_i _ h _ g;exact sL h g)|decide|omega|(refine A0 [] ?_;simp only[↓eB,seval,go_sem,bne,Er,EG,hr,arS,smS,↓C9,↓Co,↓Cp,↓DB,nxt,adv,Sm.c,Sm.k,Sm.x,Sm.y,Sm.e,Sm.f,Sm.cd,Sm.ar,Sm.th,Sm.el,Sm.no,AV,Am,Iw,ifB,ifC])
 |false=>
 have j1:=i1
 simp only[nxt]at j1
 cases i2:isT RB (nxt p) with
 |true=>
  have j2:=i2
  simp only[nxt]at j2
  have hr:B6 (f+1) p=(.mk 12 [] [] .nil .nil (ifC (nxt p)).1 [] [] [] p.n,AX [59] (AX [41] (ifC (nxt p)).2)):=by rw[hr0];simp[Et,i1,i2]
  have ha:=B8 hq.ok i2
  have hw:=BH (t:=[40]) ha.ok
  have hd:=KR hw.ok
  have hcd:=Po hw.ok
  have hw2:=BH (t:=[41]) hcd.ok
  simp only[↓eB,seval,go_sem,↓C9,↓Co,↓Cp,↓DB,hk,j1,j2,Az,adv]
  try simp only[A3,A4]
  repeat' first|exact ck|with_reducible apply And.intro|intro _
  all_goals first|exact hI|exact hc1|exact hq.ok|exact hqI|exact hqd|exact ha.ok|exact hd|exact hw.ok|exact hcd.ok|exact hw2.ok|(rename_i h;first|exact oI h|exact nah h)|(rename_i _ h _ g;exact sL h g)|decide|omega|(refine A0 [] ?_;simp only[↓eB,seval,go_sem,bne,Er,EG,hr,arS,smS,↓C9,↓Co,↓Cp,↓DB,nxt,adv,Sm.c,Sm.k,Sm.x,Sm.y,Sm.e,Sm.f,Sm.cd,Sm.ar,Sm.th,Sm.el,Sm.no,AV,Am,Iw,ifB,ifC])
 |false=>
 have j2:=i2
 simp only[nxt]at j2
 cases i3:isT TD (nxt p) with
 |true=>
  have j3:=i3
  simp only[nxt]at j3
  have hr:B6 (f+1) p=(.mk 11 [] [] .nil .nil (ifC (nxt p)).1 [] (ifB (D2 (B6 f)) (nxt p)).1 [] p.n,(ifB (D2 (B6 f)) (nxt p)).2):=by rw[hr0];simp[Et,i1,i2,i3]
  have ha:=B8 hq.ok i3
  have hw:=BH (t:=[40]) ha.ok
  have hd:=KR hw.ok
  have hcd:=Po hw.ok
  have hw2:=BH (t:=[41]) hcd.ok
  have hdd:=Uw (((ha.trans hw).trans hcd).trans hw2) hqd
  simp only[↓eB,seval,go_sem,↓C9,↓Co,↓Cp,↓DB,hk,j1,j2,j3,Az,adv]
  try simp only[A3,A4]
  repeat' first|exact ck|with_reducible apply And.intro|intro _
  all_goals first|exact hI|exact hc1|exact hq.ok|exact hqI|exact hqd|exact ha.ok|exact hd|exact hw.ok|exact hcd.ok|exact hw2.ok|exact hdd|(rename_i h;first|exact oI h|exact nah h)|(rename_i _ h _ g;exact sL h g)|decide|omega|(refine A0 [] ?_;simp only[↓eB,seval,go_sem,bne,Er,EG,hr,arS,smS,↓C9,↓Co,↓Cp,↓DB,nxt,adv,Sm.c,Sm.k,Sm.x,Sm.y,Sm.e,Sm.f,Sm.cd,Sm.ar,Sm.th,Sm.el,Sm.no,AV,Am,Iw,ifB,ifC])
 |false=>
 have j3:=i3
 simp only[nxt]at j3
 cases i4:isT tIf (nxt p) with
 |true=>
  have j4:=i4
  simp only[nxt]at j4
  have ha:=B8 hq.ok i4
  have hw:=BH (t:=[40]) ha.ok
  have hd:=KR hw.ok
  have hcd:=Po hw.ok
  have hw2:=BH (t:=[41]) hcd.ok
  have hnn:=((ha.trans hw).trans hcd).trans hw2
  have hdd:=Uw hnn hqd
  have hb:=Lq (Nt f) hw2.ok
  cases i5:isT Hc (ifB (D2 (B6 f)) (nxt p)).2 with
  |true=>
   have hr:B6 (f+1) p=(.mk 10 [] [] .nil .nil (ifC (nxt p)).1 [] (ifB (D2 (B6 f)) (nxt p)).1 (D2 (B6 f) (adv (ifB (D2 (B6 f)) (nxt p)).2)).1 p.n,(D2 (B6 f) (adv (ifB (D2 (B6 f)) (nxt p)).2)).2):=by rw[hr0];simp[Et,i1,i2,i3,i4,i5]
   have hb2:=B8 hb.ok i5
   have hde:=Uw ((hnn.trans hb).trans hb2) hqd
   have j5:=i5
   simp only[nxt,ifB,ifC,adv]at j5
   simp only[↓eB,seval,go_sem,↓C9,↓Co,↓Cp,↓DB,hk,j1,j2,j3,j4,j5,Az,adv]
   try simp only[A3,A4]
   repeat' first|exact ck|with_reducible apply And.intro|intro _
   all_goals first|exact hI|exact hc1|exact hq.ok|exact hqI|exact hqd|exact ha.ok|exact hd|exact hw.ok|exact hcd.ok|exact hw2.ok|exact hdd|exact hb.ok|exact hb2.ok|exact hde|(rename_i h;first|exact oI h|exact nah h)|(rename_i _ h _ g;exact sL h g)|decide|omega|(refine A0 [] ?_;simp only[↓eB,seval,go_sem,bne,Er,EG,hr,arS,smS,↓C9,↓Co,↓Cp,↓DB,nxt,adv,Sm.c,Sm.k,Sm.x,Sm.y,Sm.e,Sm.f,Sm.cd,Sm.ar,Sm.th,Sm.el,Sm.no,AV,Am,Iw,ifB,ifC])
  |false=>
   have hr:B6 (f+1) p=(.mk 10 [] [] .nil .nil (ifC (nxt p)).1 [] (ifB (D2 (B6 f)) (nxt p)).1 [] p.n,(ifB (D2 (B6 f)) (nxt p)).2):=by rw[hr0];simp[Et,i1,i2,i3,i4,i5]
   have j5:=i5
   simp only[nxt,ifB,ifC,adv]at j5
   simp only[↓eB,seval,go_sem,↓C9,↓Co,↓Cp,↓DB,hk,j1,j2,j3,j4,j5,Az,adv]
   try simp only[A3,A4]
   repeat' first|exact ck|with_reducible apply And.intro|intro _
   all_goals first|exact hI|exact hc1|exact hq.ok|exact hqI|exact hqd|exact ha.ok|exact hd|exact hw.ok|exact hcd.ok|exact hw2.ok|exact hdd|exact hb.ok|(rename_i h;first|exact oI h|exact nah h)|(rename_i _ h _ g;exact sL h g)|decide|omega|(refine A0 [] ?_;simp only[↓eB,seval,go_sem,bne,Er,EG,hr,arS,smS,↓C9,↓Co,↓Cp,↓DB,nxt,adv,Sm.c,Sm.k,Sm.x,Sm.y,Sm.e,Sm.f,Sm.cd,Sm.ar,Sm.th,Sm.el,Sm.no,AV,Am,Iw,ifB,ifC])
 |false=>
 have j4:=i4
 simp only[nxt]at j4
 cases i6:isT [42] (nxt p) with
 |true=>
  have j6:=i6
  simp only[nxt]at j6
  have hr:B6 (f+1) p=(.mk 5 (CY (adv (nxt p))) [] (exS (AX [61] (BE (adv (nxt p))))).1 .nil .nil [] [] [] p.n,AX [59] (exS (AX [61] (BE (adv (nxt p))))).2):=by rw[hr0];simp[Et,i1,i2,i3,i4,i6]
  have ha:=B8 hq.ok i6
  have hn:=Fj ha.ok
  have hw:=BH (t:=[61]) hn.ok
  have hd:=KR hw.ok
  have hs:=Dr hw.ok
  simp only[↓eB,seval,go_sem,↓C9,↓Co,↓Cp,↓DB,hk,j1,j2,j3,j4,j6,Az,adv]
  try simp only[A3,A4]
  repeat' first|exact ck|with_reducible apply And.intro|intro _
  all_goals first|exact hI|exact hc1|exact hq.ok|exact hqI|exact hqd|exact ha.ok|exact hn.ok|exact hd|exact hw.ok|exact hs.ok|(rename_i h;first|exact oI h|exact nah h)|(rename_i _ h _ g;exact sL h g)|decide|omega|(refine A0 [] ?_;simp only[↓eB,seval,go_sem,bne,Er,EG,hr,arS,smS,↓C9,↓Co,↓Cp,↓DB,nxt,adv,Sm.c,Sm.k,Sm.x,Sm.y,Sm.e,Sm.f,Sm.cd,Sm.ar,Sm.th,Sm.el,Sm.no,AV,Am,Iw,ifB,ifC])
 |false=>
 have j6:=i6
 simp only[nxt]at j6
 have hn:=Fj hq.ok
 cases i7:isT [40] (BE (nxt p)) with
 |true=>
  have j7:=i7
  simp only[nxt]at j7
  have hr:B6 (f+1) p=(.mk 8 [] (CY (nxt p)) .nil .nil .nil (Ew (adv (BE (nxt p)))).1 [] [] p.n,AX [59] (Ew (adv (BE (nxt p)))).2):=by rw[hr0];simp[Et,i1,i2,i3,i4,i6,i7]
  have ha:=B8 hn.ok i7
  have hs:=QY ha.ok
  simp only[↓eB,seval,go_sem,↓C9,↓Co,↓Cp,↓DB,hk,j1,j2,j3,j4,j6,j7,Az,adv]
  try simp only[A3,A4]
  repeat' first|exact ck|with_reducible apply And.intro|intro _
  all_goals first|exact hI|exact hc1|exact hq.ok|exact hqI|exact hqd|exact ha.ok|exact hn.ok|exact hs.ok|(rename_i h;first|exact oI h|exact nah h)|(rename_i _ h _ g;exact sL h g)|decide|omega|(refine A0 [] ?_;simp only[↓eB,seval,go_sem,bne,Er,EG,hr,arS,smS,↓C9,↓Co,↓Cp,↓DB,nxt,adv,Sm.c,Sm.k,Sm.x,Sm.y,Sm.e,Sm.f,Sm.cd,Sm.ar,Sm.th,Sm.el,Sm.no,AV,Am,Iw,ifB,ifC])
 |false=>
 have j7:=i7
 simp only[nxt]at j7
 cases i8:isT [91] (BE (nxt p)) with
 |true=>
  have j8:=i8
  simp only[nxt]at j8
  have hr:B6 (f+1) p=(.mk 7 [] (CY (nxt p)) (exS (adv (BE (nxt p)))).1 (exS (AX [61] (AX [93] (exS (adv (BE (nxt p)))).2))).1 .nil [] [] [] p.n,AX [59] (exS (AX [61] (AX [93] (exS (adv (BE (nxt p)))).2))).2):=by rw[hr0];simp[Et,i1,i2,i3,i4,i6,i7,i8]
  have ha:=B8 hn.ok i8
  have hd:=KR ha.ok
  have hs:=Dr ha.ok
  have hw:=BH (t:=[93]) hs.ok
  have hw2:=BH (t:=[61]) hw.ok
  have hd2:=KR hw2.ok
  have hs2:=Dr hw2.ok
  simp only[↓eB,seval,go_sem,↓C9,↓Co,↓Cp,↓DB,hk,j1,j2,j3,j4,j6,j7,j8,Az,adv]
  try simp only[A3,A4]
  repeat' first|exact ck|with_reducible apply And.intro|intro _
  all_goals first|exact hI|exact hc1|exact hq.ok|exact hqI|exact hqd|exact ha.ok|exact hn.ok|exact hd|exact hs.ok|exact hw.ok|exact hw2.ok|exact hd2|exact hs2.ok|(rename_i h;first|exact oI h|exact nah h)|(rename_i _ h _ g;exact sL h g)|decide|omega|(refine A0 [] ?_;simp only[↓eB,seval,go_sem,bne,Er,EG,hr,arS,smS,↓C9,↓Co,↓Cp,↓DB,nxt,adv,Sm.c,Sm.k,Sm.x,Sm.y,Sm.e,Sm.f,Sm.cd,Sm.ar,Sm.th,Sm.el,Sm.no,AV,Am,Iw,ifB,ifC])
 |false=>
 have j8:=i8
 simp only[nxt]at j8
 have hr:B6 (f+1) p=(.mk (CI (AX [61] (BE (nxt p)))).1.k (CY (nxt p)) (CI (AX [61] (BE (nxt p)))).1.y (CI (AX [61] (BE (nxt p)))).1.e .nil .nil ((CI (AX [61] (BE (nxt p)))).1.a.getD []) [] [] p.n,AX [59] (CI (AX [61] (BE (nxt p)))).2):=by rw[hr0];simp[Et,i1,i2,i3,i4,i6,i7,i8]
 have hw:=BH (t:=[61]) hn.ok
 have hv:=VN hw.ok
 simp only[↓eB,seval,go_sem,↓C9,↓Co,↓Cp,↓DB,hk,j1,j2,j3,j4,j6,j7,j8,Az,adv]
 try simp only[A3,A4]
 repeat' first|exact ck|with_reducible apply And.intro|intro _
 all_goals first|exact hI|exact hc1|exact hq.ok|exact hqI|exact hqd|exact hn.ok|exact hw.ok|exact hv.ok|(rename_i h;first|exact oI h|exact nah h)|(rename_i _ h _ g;exact sL h g)|decide|omega|(refine A0 [] ?_;simp only[↓eB,seval,go_sem,bne,Er,EG,hr,arS,smS,↓C9,↓Co,↓Cp,↓DB,nxt,adv,Sm.c,Sm.k,Sm.x,Sm.y,Sm.e,Sm.f,Sm.cd,Sm.ar,Sm.th,Sm.el,Sm.no,AV,Am,Iw,ifB,ifC])
theorem bB:∀f:Nat,M6 f
 |0=>by
  rintro ⟨p,_u⟩ w M I lab fz xs hc hA hl hx
  obtain⟨h1,h2⟩:=hc
  have h3:p.deep≤40:=h1.2.2.2.2.1
  have h4:41≤p.deep+((0:Nat):Int):=h2
  exact absurd h4 (by simp;omega)
 |f+1=>kB f (bB f)
noncomputable abbrev Hd {X:Ctx} {w0:World}:Sy.Spec Try.prog X w0:=PC 41 (YH 41 (bB 41))
end Go.Proofs.Ytjnnmindcbgjhaa
namespace Go.Proofs.Ytjnnmindcbgjhaa
open Go Go.Sy Go.RowKit
def Oz (l:List Vr) (most:Int) (p:Pr):Bool:=nameB p&&decide (most≤(l.length:Int))
def G4 (l:List Vr) (ptr:Bool) (most:Int) (p:Pr):List Vr:=if Oz l most p=true then l else l++[⟨CY p,ptr⟩]
def EO (l:List Vr) (most:Int) (p:Pr):Pr:=if Oz l most p=true then C7 53 p else BE p
theorem Pl {l:List Vr} {most:Int} {p:Pr} (h:okP p):Nx p (EO l most p):=by
 unfold EO;split
 ·exact Ff 53 h
 ·exact Fj h
theorem Vg (l:List Vr) (ptr:Bool) (most:Int) (p:Pr):(G4 l ptr most p).length≤l.length+1:=by unfold G4;split<;>simp
def NY:Nat→List Vr→Pr→R (List Vr)
 |0,l,p=>(l,p)
 |k+1,l,p=>
  if (p.e==0)=true then
   (
    if isT [41] (EO l 6 (Az [42] p))=true then (G4 l (isT [42] p) 6 (Az [42] p),adv (EO l 6 (Az [42] p)))
    else NY k (G4 l (isT [42] p) 6 (Az [42] p)) (AX [44] (EO l 6 (Az [42] p))))
  else (l,p)
def RG (p:Pr):R (List Vr):=if isT [41] p=true then ([],adv p) else NY (p.l.length+1) [] p
def MR (p:Pr):Bool:=isT RC p||isT tPtr p
def MS:Nat→List Vr→Pr→R (List Vr)
 |0,l,p=>(l,p)
 |k+1,l,p=>
  if MR p=true then MS k (G4 l (isT tPtr p) 20 (adv p)) (AX [59] (EO l 20 (adv p)))
  else (l,p)
def TP (p:Pr):R (List Vr):=MS p.l.length [] p
def Hs (p:Pr):Pr:=if isT [123] p=true then (if DH p=true then adv (Ai p) else C7 51 (Ai p)) else C7 51 p
def Pm (p:Pr):Pr:=if (p.e==0&&decide (p.i<(p.l.length:Int)))=true then C7 51 p else p
def p0 (l:List Tok) (n:Int):Pr:=⟨l,0,n,0,0,0,0⟩
def hdP (l:List Tok) (n:Int):Pr:=AX tFn (p0 l n)
def hd2 (l:List Tok) (n:Int):Pr:=AX [40] (BE (hdP l n))
def fp3 (l:List Tok) (n:Int):R (List Vr):=RG (hd2 l n)
def fp4 (l:List Tok) (n:Int):R (List Vr):=TP (Hs (fp3 l n).2)
def fp5 (l:List Tok) (n:Int):R (List Sm):=A4N (fp4 l n).2
def fp6 (l:List Tok) (n:Int):Pr:=Pm (fp5 l n).2
def GI (s:List UInt8):Fn×Int×Int:=
 if (rxT s).2.2 != 0 then (fn0,(rxT s).2.1,(rxT s).2.2)
 else if (fp6 (rxT s).1 (s.length:Int)).e != 0 then (fn0,(fp6 (rxT s).1 (s.length:Int)).at',(fp6 (rxT s).1 (s.length:Int)).e)
 else (⟨CY (hdP (rxT s).1 (s.length:Int)),(fp3 (rxT s).1 (s.length:Int)).1,(fp4 (rxT s).1 (s.length:Int)).1,(fp5 (rxT s).1 (s.length:Int)).1⟩,0,0)
theorem SG (s:List UInt8) (hs:s.length≤4096):∀(f i:Nat) (out:List Tok),i≤s.length→out.length≤i→(∀x∈out,x.t.length≤4096)→(rxF s f i out).1.length≤4096∧∀x∈(rxF s f i out).1,x.t.length≤4096
 |0,i,out,hi,ho,hx=>⟨by show out.length≤4096;omega,hx⟩
 |f+1,i,out,hi,ho,hx=>by
  have hnil:([]:List Tok).length≤4096∧∀x∈([]:List Tok),x.t.length≤4096:=⟨by simp,by simp⟩
  have hsn:∀(k n:Nat) (kd:Int),0<n→i+n≤s.length→(rxF s f (i+n) (out++[⟨kd,(s.drop i).take k,(i:Int)⟩])).1.length≤4096∧∀x∈(rxF s f (i+n) (out++[⟨kd,(s.drop i).take k,(i:Int)⟩])).1,x.t.length≤4096:=by
   intro k n kd hn hin
   refine SG s hs f (i+n) _ hin (by simp;omega) ?_
   intro x hxm
   rcases List.mem_append.1 hxm with h|h
   ·exact hx x h
   ·simp only[List.mem_singleton]at h;subst h;simp only[List.length_take,List.length_drop];omega
  simp only[rxF]
  split
  ·exact⟨by show out.length≤4096;omega,hx⟩
  ·rename_i hlt
   have hlt:i<s.length:=by omega
   have sp:=fun p=>L4 p (s.drop i)
   simp only[List.length_drop]at sp
   split
   ·exact SG s hs f _ _ (by omega) (by omega) hx
   split
   ·exact SG s hs f _ _ (by have:=sp nlB;omega) (by omega) hx
   split
   ·rename_i hl
    have h1:=IK idB hlt
    rw[if_pos (show idB _=true by show (EN _||Bk _)=true;rw[hl];rfl)]at h1
    split
    ·exact hnil
    ·exact hsn _ _ 0 (by omega) (by have:=sp idB;omega)
   split
   ·rename_i hd
    have h1:=IK Bk hlt
    rw[if_pos hd]at h1
    split
    ·exact hnil
    split
    ·exact hnil
    ·exact hsn _ _ 1 (by omega) (by have:=sp Bk;omega)
   split
   ·rename_i ht
    unfold TM at ht
    simp only[Bool.and_eq_true,decide_eq_true_eq]at ht
    exact hsn 2 2 2 (by omega) (by omega)
   split
   ·exact hsn 1 1 2 (by omega) (by omega)
   ·exact hnil
theorem bC (s:List UInt8):(rxT s).1.length≤4096∧∀x∈(rxT s).1,x.t.length≤4096:=by
 unfold rxT
 split
 ·exact⟨by simp,by simp⟩
 ·rename_i h
  exact SG s (by simp at h;omega) _ 0 [] (Nat.zero_le _) (Nat.le_refl _) (by simp)
theorem V2 (s:List UInt8) (n:Int):okP (p0 (rxT s).1 n):=⟨Int.le_refl _,by show (0:Int)≤_;omega,(bC s).1,Int.le_refl _,by show (0:Int)≤40;decide,(bC s).2⟩
theorem bD (s:List UInt8) (n:Int):Nx (p0 (rxT s).1 n) (hdP (rxT s).1 n):=BH (V2 s n)
theorem sB (s:List UInt8) (n:Int):Nx (p0 (rxT s).1 n) (hd2 (rxT s).1 n):=by
 have h1:=bD s n
 have h2:=h1.trans (Fj h1.ok)
 exact h2.trans (BH h2.ok)
theorem Xl:∀(k:Nat) (l:List Vr) (p:Pr),okP p→Nx p (NY k l p).2
 |0,l,p,h=>.refl h
 |k+1,l,p,h=>by
  simp only[NY]
  split
  ·have h1:=bN (t:=[42]) h
   have h2:=h1.trans (Pl (l:=l) (most:=6) h1.ok)
   split
   ·rename_i hi;exact h2.trans (B8 h2.ok hi)
   ·have h3:=h2.trans (BH (t:=[44]) h2.ok)
    exact h3.trans (Xl k _ _ h3.ok)
  ·exact .refl h
theorem kC {p:Pr} (h:okP p):Nx p (RG p).2:=by
 unfold RG;split
 ·rename_i hi;exact B8 h hi
 ·exact Xl _ _ _ h
theorem SH {p:Pr} (h:MR p=true):p.e=0∧p.i<(p.l.length:Int):=by
 unfold MR at h
 simp only[Bool.or_eq_true]at h
 rcases h with h|h<;>exact BB h
theorem Xm:∀(k:Nat) (l:List Vr) (p:Pr),okP p→Nx p (MS k l p).2
 |0,l,p,h=>.refl h
 |k+1,l,p,h=>by
  simp only[MS]
  split
  ·rename_i hb
   have h1:=DI h (SH hb).2 (SH hb).1
   have h2:=h1.trans (Pl (l:=l) (most:=20) h1.ok)
   have h3:=h2.trans (BH (t:=[59]) h2.ok)
   exact h3.trans (Xm k _ _ h3.ok)
  ·exact .refl h
end Go.Proofs.Ytjnnmindcbgjhaa
namespace Go.Sy
open Go Go.RowKit
section
variable {P:Program} {X:Ctx} {w0:World} {n:Nat}
theorem eF {c:Code} {s:St} {Q Q':Exit→St→Prop} (h:Tri (P:=P) X w0 n c s Q) (hq:∀e s,Q e s→Q' e s):Tri (P:=P) X w0 n c s Q':=by
 intro a w hs
 refine Code.wp_mono ?_ (h a w hs)
 rintro e a' w' (⟨s',h1,h2⟩|h)
 ·exact .inl ⟨s',hq e s' h1,h2⟩
 ·exact .inr h
theorem Xn {a b:Code} {s:St} {Q:Exit→St→Prop} (h:Tri (P:=P) X w0 n a s (LC (fun s'=>Tri (P:=P) X w0 n b s' Q) Q)):Tri (P:=P) X w0 n (.seq a b) s Q:=by
 intro act w hs
 refine wp_seq ?_
 refine Code.wp_mono ?_ (h act w hs)
 rintro e a' w' (⟨s',hq,hs'⟩|⟨ch,rfl,h⟩)
 ·cases e with
  |normal=>exact hq a' w' hs'
  |_=>exact .inl ⟨s',hq,hs'⟩
 ·exact .inr ⟨ch,rfl,h⟩
theorem sD {c:Code} {s t:St} {Q:Exit→St→Prop} (h:Tri (P:=P) X w0 n c t Q) (hs:To X s t):Tri (P:=P) X w0 n c s Q:=fun a w hh=>h a w (hs w0 n a w hh)
theorem QU {Y:Type} {a b:Code} {s:St} {Q:Exit→St→Prop} (J:Y→Prop) (S:Y→St) (sp:List (Spec P X w0)) (g:Gh) (h1:vc X w0 sp n g a s (LC (fun s'=>∃y,J y∧To X s' (S y)) Q)) (h2:∀y,J y→Tri (P:=P) X w0 n b (S y) Q):Tri (P:=P) X w0 n (.seq a b) s Q:=by
 refine Xn (eF (Aq sp g a s _ h1) ?_)
 intro e s' hq
 cases e with
 |normal=>obtain⟨y,hy,hto⟩:=hq;exact sD (h2 y hy) hto
 |_=>exact hq
theorem G5 {a b:Code} {s:St} {Q:Exit→St→Prop} (sp:List (Spec P X w0)) (g:Gh) (h1:vc X w0 sp n g a s (LC (fun s'=>Tri (P:=P) X w0 n b s' Q) Q)):Tri (P:=P) X w0 n (.seq a b) s Q:=Xn (Aq sp g a s _ h1)
end
section
variable {P:Program}
theorem bE {f:FuncId} {fn:Func} {c:Code} (hf:P.funcs[f]?=some fn) (hb:fn.body=some c) (w:World) (fz:Nat→Prop) (args:List SV) (hnm:∀v∈args,v.names=[]) (hfz:∀b,fz b→b<w.heap.size)
  (xs:List Value) (hlen:xs.length=args.length) (hx:∀(j:Nat) (v:SV) (x:Value),args[j]?=some v→xs[j]?=some x→CD (hp w) fz v x) (R:SV→Prop)
  (hn:args.length≤fn.ntmps) (h:Tri (P:=P) (clX fz) w fn.ntmps c ⟨H4 0 args,[]⟩ (L3 P (clX fz) fn.results.toList (fun _ vs=>(Dc vs).names=[]∧R (Dc vs)))) :
  Calls P f xs.toArray w (Im w fz R):=by
 refine calls_of_wp hf hb (Code.wp_mono ?_ (h _ w ?_))
 ·rintro e a w' (⟨s,hq,hs⟩|⟨ch,rfl,_,_,I1,l1,f1,H1,_,hpn⟩)
  rotate_left
  ·exact hpn.elim
  have fin:Lb P (clX fz) fn.results.toList (fun _ vs=>(Dc vs).names=[]∧R (Dc vs)) s→a.defers=[]∧∃v,(results fn a.tmps).run P w'= .ok v w'∧Im w fz R (Ending.returned v) w':=by
   rintro ⟨cs,s',vs,h1,h2,h3,h4,h5⟩
   refine⟨hs.defers,?_⟩
   obtain⟨_,I,lab,fz',hA⟩:=FH h1 a w' hs
   obtain⟨x,x1,x2⟩:=Il hA h2 h3
   refine⟨x,x1,Dc vs,x,fun b=>fz' b∨fz b,rfl,h5,h4,fun b hb=>.inr hb,fun b hb=>?_,fun b hb=>?_,G0 (fun b hb=>⟨.inl hb,rfl⟩) h4 x2,hA.m.kept.below (fun _ _ hf=>hf)⟩
   ·rcases hb with hb|hb
    ·rcases hA.m.fzo b hb with h|h|h
     ·exact .inl h
     ·exact .inr h
     ·exact h.elim
    ·exact .inl hb
   ·rcases hb with hb|hb
    ·exact(hA.m.fzl b hb).1
    ·exact Nat.lt_of_lt_of_le (hfz b hb) hA.m.kept.size
  cases e with
  |normal=>exact fin hq
  |ret=>exact fin hq
  |_=>exact hq.elim
 ·have hE0:∀t g v,lkp (H4 0 args) t=some (g,v)→g=true∧args[t]?=some v:=by
   intro t g v ht
   rw[FW]at ht
   simp only[Nat.zero_le,if_true,Nat.sub_zero,Option.map_eq_some_iff,jP]at ht
   obtain⟨u,hu,rfl,rfl⟩:=ht
   exact⟨rfl,hu⟩
  refine⟨?_,nm0,fun _=>none,fz,?_,⟨rfl,fun p hp=>by cases hp⟩,?_,⟨?_,?_,?_,fun b hb=>⟨hfz b hb,rfl⟩,fun b hb=>.inl hb,Kept.refl _ _,by intro p hp;cases hp⟩⟩
  ·intro t g v ht _
   have:=(hE0 t g v ht).2
   rw[hnm v (List.mem_of_getElem? this)]
   intro k hk;cases hk
  ·simp[hlen];omega
  ·intro t g v ht
   obtain⟨rfl,hv⟩:=hE0 t g v ht
   have hlt:t<args.length:=(List.getElem?_eq_some_iff.1 hv).1
   have hlt2:t<xs.length:=by omega
   refine⟨xs[t],?_,?_⟩
   ·rw[Array.getElem?_append_left (by simpa using hlt2)]
    simp[hlt2]
   ·simp only[if_true]
    exact G0 (fun b hb=>⟨hb,rfl⟩) (hnm v (List.mem_of_getElem? hv)) (hx t v _ hv (List.getElem?_eq_getElem hlt2))
  ·intro k ch hk;simp[lkp]at hk
  ·intro k ch hk;simp[lkp]at hk
  ·intro b π hb;cases hb
theorem Z2 {f:FuncId} {fn:Func} {c:Code} (hf:P.funcs[f]?=some fn) (hb:fn.body=some c) (w:World) (fz:Nat→Prop) {A:Type} (ac:ArgC A) (F:A→SV) (a:A) (xs:List Value) (hfz:∀b,fz b→b<w.heap.size) (hl:xs.length=(ac.e a).length)
  (hx:∀(j:Nat) (v:SV) (x:Value),(ac.e a)[j]?=some v→xs[j]?=some x→CD (hp w) fz v x) (hn:(ac.e a).length≤fn.ntmps)
  (h:Tri (P:=P) (clX fz) w fn.ntmps c ⟨H4 0 (ac.e a),[]⟩ (L3 P (clX fz) fn.results.toList (ZI (F a)))):Calls P f xs.toArray w (Im w fz (fun v=>v=F a)):=
 (bE hf hb w fz (ac.e a) (ac.n a) hfz xs hl hx (fun v=>leV v (F a)) hn h).mono fun _ _ h=>RT h
end
end Go.Sy
