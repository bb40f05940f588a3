/- The maker's statements and blocks. No conditions but those in each statement. -/
import Derived.Test.YtjnnmindcbgjhaaMk3
set_option linter.unusedVariables false
set_option linter.unusedSimpArgs false
set_option maxRecDepth 20000
set_option maxHeartbeats 16000000
open List (length_append length_cons length_nil)
namespace Go.Proofs.Ytjnnmindcbgjhaa
open Go Go.Sy Go.RowKit
theorem QZ (w:Int):(nmS w).length≤1:=lw _
def dcM (m:Mk):Mk:={ m with n:=w64i (m.n-1) }
theorem Oe (m:Mk):(⟨m.b,m.i,IntKind.i64.wrap (m.n-1)⟩:Mk)=dcM m:=rfl
theorem kL {m:Mk} {c:Int} (h:okM m c):okM (dcM m) c:=h
theorem Ax.okd {m q:Mk} {c e:Int} (h:Ax m q c) (ho:okM m e):okM q (e-c):=h.ok (by rw[show c+(e-c)=e by omega];exact ho)
theorem A0b (m:Mk):Ax m (dcM m) 0:=⟨Int.le_refl _,by show m.i≤m.i+0;omega,rfl⟩
def Gf (f:Mk→T):Nat→List UInt8→Mk→T
 |0,acc,m=>(acc,m)
 |k+1,acc,m=>Gf f k (acc++(f m).1) (f m).2
def HA (f:Mk→T) (m:Mk):T:=((Gf f (nxV 4 m).toNat [123,32] (nxM m)).1++[125,32],(Gf f (nxV 4 m).toNat [123,32] (nxM m)).2)
def Np (B:Mk→T) (s:Int) (m:Mk):T:=(((((An (nxM (dcM m))).1++[32,61,32])++(AW 2 (An (nxM (dcM m))).2).1)++[59,32]),(AW 2 (An (nxM (dcM m))).2).2)
def WI (B:Mk→T) (s:Int) (m:Mk):T:=(((((pvT s (nxM (dcM m))).1++[32,61,32,38])++cdT.getD (nxV 2 (pvT s (nxM (dcM m))).2).toNat [])++[59,32]),nxM (pvT s (nxM (dcM m))).2)
def WJ (B:Mk→T) (s:Int) (m:Mk):T:=(((((pvT s (nxM (dcM m))).1++[32,61,32])++nqT.getD (nxV 2 (pvT s (nxM (dcM m))).2).toNat [])++[59,32]),nxM (pvT s (nxM (dcM m))).2)
def WK (B:Mk→T) (s:Int) (m:Mk):T:=(((((An (nxM (dcM m))).1++[32,61,32,42])++(pvT s (An (nxM (dcM m))).2).1)++[59,32]),(pvT s (An (nxM (dcM m))).2).2)
def WL (B:Mk→T) (s:Int) (m:Mk):T:=((((([42]++(pvT s (nxM (dcM m))).1)++[32,61,32])++(AW 1 (pvT s (nxM (dcM m))).2).1)++[59,32]),(AW 1 (pvT s (nxM (dcM m))).2).2)
def WM (B:Mk→T) (s:Int) (m:Mk):T:=(((((((An (nxM (dcM m))).1++[32,61,32])++tuT.getD (nxV 2 (An (nxM (dcM m))).2).toNat [])++[91])++(AW 1 (nxM (An (nxM (dcM m))).2)).1)++[93,59,32]),(AW 1 (nxM (An (nxM (dcM m))).2)).2)
def WN (B:Mk→T) (s:Int) (m:Mk):T:=((((((tuT.getD (nxV 2 (nxM (dcM m))).toNat []++[91])++(AW 1 (nxM (nxM (dcM m)))).1)++[93,32,61,32])++(AW 1 (AW 1 (nxM (nxM (dcM m)))).2).1)++[59,32]),(AW 1 (AW 1 (nxM (nxM (dcM m)))).2).2)
def RO (B:Mk→T) (s:Int) (m:Mk):T:=(((((((An (nxM (nxM (dcM m)))).1++[32,61,32])++nmS (nxV 4 (nxM (dcM m))))++[40])++(Gd (nxV 4 (nxM (dcM m))) s (An (nxM (nxM (dcM m)))).2).1)++[41,59,32]),(Gd (nxV 4 (nxM (dcM m))) s (An (nxM (nxM (dcM m)))).2).2)
def TF (B:Mk→T) (s:Int) (m:Mk):T:=((((nmS (nxV 4 (nxM (dcM m)))++[40])++(Gd (IntKind.i64.wrap (nxV 4 (nxM (dcM m))+IntKind.i64.wrap ((nxV 9 (nxM (nxM (dcM m)))).tdiv 8))) s (nxM (nxM (nxM (dcM m))))).1)++[41,59,32]),(Gd (IntKind.i64.wrap (nxV 4 (nxM (dcM m))+IntKind.i64.wrap ((nxV 9 (nxM (nxM (dcM m)))).tdiv 8))) s (nxM (nxM (nxM (dcM m))))).2)
def TG (B:Mk→T) (s:Int) (m:Mk):T:=((([114,101,116,117,114,110,32]++(AW 1 (nxM (dcM m))).1)++[59,32]),(AW 1 (nxM (dcM m))).2)
def TH (B:Mk→T) (s:Int) (m:Mk):T:=((([97,115,115,101,114,116,32,40]++(Al 1 s (nxM (dcM m))).1)++[41,59,32]),(Al 1 s (nxM (dcM m))).2)
def Pd (B:Mk→T) (s:Int) (m:Mk):T:=(((((An (nxM (dcM m))).1++[32,61,32])++(AW 1 (An (nxM (dcM m))).2).1)++[59,32]),(AW 1 (An (nxM (dcM m))).2).2)
def TI (B:Mk→T) (s:Int) (m:Mk):T:=(((([105,102,32,40]++(Al 1 s (nxM (nxM (dcM m)))).1)++[41,32])++(B (Al 1 s (nxM (nxM (dcM m)))).2).1),nxM (B (Al 1 s (nxM (nxM (dcM m)))).2).2)
def Pe (B:Mk→T) (s:Int) (m:Mk):T:=(((((([105,102,32,40]++(Al 1 s (nxM (nxM (dcM m)))).1)++[41,32])++(B (Al 1 s (nxM (nxM (dcM m)))).2).1)++[101,108,115,101,32])++(B (nxM (B (Al 1 s (nxM (nxM (dcM m)))).2).2)).1),(B (nxM (B (Al 1 s (nxM (nxM (dcM m)))).2).2)).2)
def Nq (B:Mk→T) (s:Int) (m:Mk):T:=(((([119,104,105,108,101,32,40]++(Al 1 s (nxM (nxM (dcM m)))).1)++[41,32])++(B (Al 1 s (nxM (nxM (dcM m)))).2).1),(B (Al 1 s (nxM (nxM (dcM m)))).2).2)
def stV (B:Mk→T) (s:Int) (m:Mk):Int:=nxV 2 (B (Al 1 s (nxM (nxM (dcM m)))).2).2
def stB (dp:Bool) (B:Mk→T) (s:Int) (m:Mk):T:=
 if decide ((dcM m).n<0)=true then (([114,101,116,117,114,110,32]++(nuT (dcM m)).1)++[59,32],(nuT (dcM m)).2)
 else if (decide (nxV 18 (dcM m)<3))=true then Np B s m
 else if (nxV 18 (dcM m)==3)=true then WI B s m
 else if (nxV 18 (dcM m)==4)=true then WJ B s m
 else if (nxV 18 (dcM m)==5)=true then WK B s m
 else if (nxV 18 (dcM m)==6)=true then WL B s m
 else if (nxV 18 (dcM m)==7)=true then WM B s m
 else if (nxV 18 (dcM m)==8)=true then WN B s m
 else if (decide (nxV 18 (dcM m)<11))=true then RO B s m
 else if (nxV 18 (dcM m)==11)=true then TF B s m
 else if (nxV 18 (dcM m)==12)=true then TG B s m
 else if (nxV 18 (dcM m)==13)=true then TH B s m
 else if (!dp)=true then Pd B s m
 else if (nxV 2 (nxM (dcM m))==0)=true then (if (stV B s m==0)=true then Pe B s m else TI B s m)
 else Nq B s m
def stT:Nat→Int→Mk→T
 |0,s,m=>stB false (fun m=>([],m)) s m
 |k+1,s,m=>stB true (HA (stT k s)) s m
def bc (c:Int):Nat→Int
 |0=>0
 |k+1=>c+bc c k
def bn (c:Nat):Nat→Nat
 |0=>0
 |k+1=>c+bn c k
theorem TJ {c:Int} (h:0≤c):∀k,0≤bc c k
 |0=>Int.le_refl _
 |k+1=>by have:=TJ h k;simp only[bc];omega
theorem kM {c:Int} (h:0≤c):∀k,k≤3→bc c k≤3*c
 |0,_=>by simp only[bc];omega
 |1,_=>by simp only[bc];omega
 |2,_=>by simp only[bc];omega
 |3,_=>by simp only[bc];omega
theorem kN {c:Nat}:∀k,k≤3→bn c k≤3*c
 |0,_=>by simp only[bn];omega
 |1,_=>by simp only[bn];omega
 |2,_=>by simp only[bn];omega
 |3,_=>by simp only[bn];omega
theorem kO {f:Mk→T} {c:Int} (h0:0≤c) (hf:∀q,okM q c→Ax q (f q).2 c):∀(k:Nat) (acc:List UInt8) (q:Mk),okM q (bc c k)→Ax q (Gf f k acc q).2 (bc c k)
 |0,acc,q,h=>Ax.refl q
 |k+1,acc,q,h=>by
  have h1:=TJ h0 k
  simp only[bc]at h ⊢
  have a1:=hf q (h.mono (by omega))
  exact a1.trans (kO h0 hf k _ _ (a1.ok h))
theorem Wx {f:Mk→T} {c:Nat} (hf:∀q,(f q).1.length≤c):∀(k:Nat) (acc:List UInt8) (q:Mk),(Gf f k acc q).1.length≤acc.length+bn c k
 |0,acc,q=>Nat.le_refl _
 |k+1,acc,q=>by
  have h1:=hf q
  have h2:=Wx hf k (acc++(f q).1) (f q).2
  simp only[Gf,bn,length_append]at h2 ⊢
  omega
theorem cJ {f:Mk→T} {c:Int} (h0:0≤c) (hf:∀q,okM q c→Ax q (f q).2 c) (m:Mk) (h:okM m (1+3*c)):Ax m (HA f m).2 (1+3*c):=by
 have a1:=BX (h.mono (by omega))
 have o1:okM (nxM m) (3*c):=a1.ok h
 have hv:=D2 (j:=4) h (by decide)
 have hb:=kM h0 (nxV 4 m).toNat (by omega)
 exact(a1.trans (kO h0 hf (nxV 4 m).toNat [123,32] (nxM m) (o1.mono hb))).mono (by omega)
theorem Yu {f:Mk→T} {c:Nat} (hf:∀q,(f q).1.length≤c) (m:Mk):(HA f m).1.length≤4+3*c:=by
 have hv:nxV 4 m<4:=Int.tmod_lt_of_pos _ (by decide)
 have hb:=kN (c:=c) (nxV 4 m).toNat (by omega)
 have h1:=Wx hf (nxV 4 m).toNat [123,32] (nxM m)
 simp only[HA,jL3]at h1 ⊢
 omega
theorem cK {dp:Bool} {B:Mk→T} {K:Int} (hK:0≤K) (hB:∀q,okM q K→Ax q (B q).2 K) {s:Int} {m:Mk} (o0:okM m (60+2*K)):Ax m (stB dp B s m).2 (60+2*K):=by
 have a0:=A0b m
 have oK0:okM (dcM m) (60+2*K):=kL o0
 have a1:=a0.trans (BX (oK0.mono (by omega)))
 have oK:okM (nxM (dcM m)) (59+2*K):=a1.ok (o0.mono (by omega))
 have o1:okM (nxM (dcM m)) 59:=oK.mono (by omega)
 unfold stB
 by_cases hn:decide ((dcM m).n<0)=true
 ·rw[if_pos hn]
  exact(a0.trans (aH (oK0.mono (by omega)))).mono (by omega)
 rw[if_neg hn]
 by_cases h0:(decide (nxV 18 (dcM m)<3))=true
 ·rw[if_pos h0]
  have x1:=Eo (okM.mono o1 (by omega))
  have x1o:=x1.okd o1
  have x2:=DN 2 (okM.mono x1o (by omega))
  have x2o:=x2.okd x1o
  show Ax m (AW 2 (An (nxM (dcM m))).2).2 _
  exact((a1.trans x1).trans x2).mono (by omega)
 rw[if_neg h0]
 by_cases h3:(nxV 18 (dcM m)==3)=true
 ·rw[if_pos h3]
  have x1:=Ix (s:=s) (okM.mono o1 (by omega))
  have x1o:=x1.okd o1
  have x2:=BX (okM.mono x1o (by omega))
  have x2o:=x2.okd x1o
  show Ax m (nxM (pvT s (nxM (dcM m))).2) _
  exact((a1.trans x1).trans x2).mono (by omega)
 rw[if_neg h3]
 by_cases h4:(nxV 18 (dcM m)==4)=true
 ·rw[if_pos h4]
  have x1:=Ix (s:=s) (okM.mono o1 (by omega))
  have x1o:=x1.okd o1
  have x2:=BX (okM.mono x1o (by omega))
  have x2o:=x2.okd x1o
  show Ax m (nxM (pvT s (nxM (dcM m))).2) _
  exact((a1.trans x1).trans x2).mono (by omega)
 rw[if_neg h4]
 by_cases h5:(nxV 18 (dcM m)==5)=true
 ·rw[if_pos h5]
  have x1:=Eo (okM.mono o1 (by omega))
  have x1o:=x1.okd o1
  have x2:=Ix (s:=s) (okM.mono x1o (by omega))
  have x2o:=x2.okd x1o
  show Ax m (pvT s (An (nxM (dcM m))).2).2 _
  exact((a1.trans x1).trans x2).mono (by omega)
 rw[if_neg h5]
 by_cases h6:(nxV 18 (dcM m)==6)=true
 ·rw[if_pos h6]
  have x1:=Ix (s:=s) (okM.mono o1 (by omega))
  have x1o:=x1.okd o1
  have x2:=DN 1 (okM.mono x1o (by omega))
  have x2o:=x2.okd x1o
  show Ax m (AW 1 (pvT s (nxM (dcM m))).2).2 _
  exact((a1.trans x1).trans x2).mono (by omega)
 rw[if_neg h6]
 by_cases h7:(nxV 18 (dcM m)==7)=true
 ·rw[if_pos h7]
  have x1:=Eo (okM.mono o1 (by omega))
  have x1o:=x1.okd o1
  have x2:=BX (okM.mono x1o (by omega))
  have x2o:=x2.okd x1o
  have x3:=DN 1 (okM.mono x2o (by omega))
  have x3o:=x3.okd x2o
  show Ax m (AW 1 (nxM (An (nxM (dcM m))).2)).2 _
  exact(((a1.trans x1).trans x2).trans x3).mono (by omega)
 rw[if_neg h7]
 by_cases h8:(nxV 18 (dcM m)==8)=true
 ·rw[if_pos h8]
  have x1:=BX (okM.mono o1 (by omega))
  have x1o:=x1.okd o1
  have x2:=DN 1 (okM.mono x1o (by omega))
  have x2o:=x2.okd x1o
  have x3:=DN 1 (okM.mono x2o (by omega))
  have x3o:=x3.okd x2o
  show Ax m (AW 1 (AW 1 (nxM (nxM (dcM m)))).2).2 _
  exact(((a1.trans x1).trans x2).trans x3).mono (by omega)
 rw[if_neg h8]
 by_cases h9:(decide (nxV 18 (dcM m)<11))=true
 ·rw[if_pos h9]
  have x1:=BX (okM.mono o1 (by omega))
  have x1o:=x1.okd o1
  have x2:=Eo (okM.mono x1o (by omega))
  have x2o:=x2.okd x1o
  have x3:=QY (t:=nxV 4 (nxM (dcM m))) (s:=s) (okM.mono x2o (by omega))
  have x3o:=x3.okd x2o
  show Ax m (Gd (nxV 4 (nxM (dcM m))) s (An (nxM (nxM (dcM m)))).2).2 _
  exact(((a1.trans x1).trans x2).trans x3).mono (by omega)
 rw[if_neg h9]
 by_cases h11:(nxV 18 (dcM m)==11)=true
 ·rw[if_pos h11]
  have x1:=BX (okM.mono o1 (by omega))
  have x1o:=x1.okd o1
  have x2:=BX (okM.mono x1o (by omega))
  have x2o:=x2.okd x1o
  have x3:=QY (t:=IntKind.i64.wrap (nxV 4 (nxM (dcM m))+IntKind.i64.wrap ((nxV 9 (nxM (nxM (dcM m)))).tdiv 8))) (s:=s) (okM.mono x2o (by omega))
  have x3o:=x3.okd x2o
  show Ax m (Gd (IntKind.i64.wrap (nxV 4 (nxM (dcM m))+IntKind.i64.wrap ((nxV 9 (nxM (nxM (dcM m)))).tdiv 8))) s (nxM (nxM (nxM (dcM m))))).2 _
  exact(((a1.trans x1).trans x2).trans x3).mono (by omega)
 rw[if_neg h11]
 by_cases h12:(nxV 18 (dcM m)==12)=true
 ·rw[if_pos h12]
  have x1:=DN 1 (okM.mono o1 (by omega))
  have x1o:=x1.okd o1
  show Ax m (AW 1 (nxM (dcM m))).2 _
  exact(a1.trans x1).mono (by omega)
 rw[if_neg h12]
 by_cases h13:(nxV 18 (dcM m)==13)=true
 ·rw[if_pos h13]
  have x1:=He 1 (s:=s) (okM.mono o1 (by omega))
  have x1o:=x1.okd o1
  show Ax m (Al 1 s (nxM (dcM m))).2 _
  exact(a1.trans x1).mono (by omega)
 rw[if_neg h13]
 by_cases hbase:(!dp)=true
 ·rw[if_pos hbase]
  have x1:=Eo (okM.mono o1 (by omega))
  have x1o:=x1.okd o1
  have x2:=DN 1 (okM.mono x1o (by omega))
  have x2o:=x2.okd x1o
  show Ax m (AW 1 (An (nxM (dcM m))).2).2 _
  exact((a1.trans x1).trans x2).mono (by omega)
 rw[if_neg hbase]
 by_cases hif:(nxV 2 (nxM (dcM m))==0)=true
 ·rw[if_pos hif]
  by_cases hel:(stV B s m==0)=true
  ·rw[if_pos hel]
   have x1:=BX (okM.mono oK (by omega))
   have x1o:=x1.okd oK
   have x2:=He 1 (s:=s) (okM.mono x1o (by omega))
   have x2o:=x2.okd x1o
   have x3:=hB _ (okM.mono x2o (by omega))
   have x3o:=x3.okd x2o
   have x4:=BX (okM.mono x3o (by omega))
   have x4o:=x4.okd x3o
   have x5:=hB _ (okM.mono x4o (by omega))
   have x5o:=x5.okd x4o
   show Ax m (B (nxM (B (Al 1 s (nxM (nxM (dcM m)))).2).2)).2 _
   exact(((((a1.trans x1).trans x2).trans x3).trans x4).trans x5).mono (by omega)
  ·rw[if_neg hel]
   have x1:=BX (okM.mono oK (by omega))
   have x1o:=x1.okd oK
   have x2:=He 1 (s:=s) (okM.mono x1o (by omega))
   have x2o:=x2.okd x1o
   have x3:=hB _ (okM.mono x2o (by omega))
   have x3o:=x3.okd x2o
   have x4:=BX (okM.mono x3o (by omega))
   have x4o:=x4.okd x3o
   show Ax m (nxM (B (Al 1 s (nxM (nxM (dcM m)))).2).2) _
   exact((((a1.trans x1).trans x2).trans x3).trans x4).mono (by omega)
 ·rw[if_neg hif]
  have x1:=BX (okM.mono oK (by omega))
  have x1o:=x1.okd oK
  have x2:=He 1 (s:=s) (okM.mono x1o (by omega))
  have x2o:=x2.okd x1o
  have x3:=hB _ (okM.mono x2o (by omega))
  have x3o:=x3.okd x2o
  show Ax m (B (Al 1 s (nxM (nxM (dcM m)))).2).2 _
  exact(((a1.trans x1).trans x2).trans x3).mono (by omega)
theorem Yv {dp:Bool} {B:Mk→T} {L:Nat} (hBl:∀q,(B q).1.length≤L) (s:Int) (m:Mk):(stB dp B s m).1.length≤400+2*L:=by
 unfold stB
 by_cases hn:decide ((dcM m).n<0)=true
 ·rw[if_pos hn]
  have h1:=TD (dcM m)
  simp only[jL3]
  omega
 rw[if_neg hn]
 by_cases h0:(decide (nxV 18 (dcM m)<3))=true
 ·rw[if_pos h0]
  have y0:=Cu (nxM (dcM m))
  have y1:=CU 2 (An (nxM (dcM m))).2
  simp only[Np,jL3]
  omega
 rw[if_neg h0]
 by_cases h3:(nxV 18 (dcM m)==3)=true
 ·rw[if_pos h3]
  have y0:=G0 s (nxM (dcM m))
  have y1:=Yo (nxV 2 (pvT s (nxM (dcM m))).2).toNat
  simp only[WI,jL3]
  omega
 rw[if_neg h3]
 by_cases h4:(nxV 18 (dcM m)==4)=true
 ·rw[if_pos h4]
  have y0:=G0 s (nxM (dcM m))
  have y1:=Yp (nxV 2 (pvT s (nxM (dcM m))).2).toNat
  simp only[WJ,jL3]
  omega
 rw[if_neg h4]
 by_cases h5:(nxV 18 (dcM m)==5)=true
 ·rw[if_pos h5]
  have y0:=Cu (nxM (dcM m))
  have y1:=G0 s (An (nxM (dcM m))).2
  simp only[WK,jL3]
  omega
 rw[if_neg h5]
 by_cases h6:(nxV 18 (dcM m)==6)=true
 ·rw[if_pos h6]
  have y0:=G0 s (nxM (dcM m))
  have y1:=CU 1 (pvT s (nxM (dcM m))).2
  simp only[WL,jL3]
  omega
 rw[if_neg h6]
 by_cases h7:(nxV 18 (dcM m)==7)=true
 ·rw[if_pos h7]
  have y0:=Cu (nxM (dcM m))
  have y1:=RL (nxV 2 (An (nxM (dcM m))).2).toNat
  have y2:=CU 1 (nxM (An (nxM (dcM m))).2)
  simp only[WM,jL3]
  omega
 rw[if_neg h7]
 by_cases h8:(nxV 18 (dcM m)==8)=true
 ·rw[if_pos h8]
  have y0:=RL (nxV 2 (nxM (dcM m))).toNat
  have y1:=CU 1 (nxM (nxM (dcM m)))
  have y2:=CU 1 (AW 1 (nxM (nxM (dcM m)))).2
  simp only[WN,jL3]
  omega
 rw[if_neg h8]
 by_cases h9:(decide (nxV 18 (dcM m)<11))=true
 ·rw[if_pos h9]
  have y1:=Cu (nxM (nxM (dcM m)))
  have y2n:=QZ (nxV 4 (nxM (dcM m)))
  have y2:=Oc (nxV 4 (nxM (dcM m))) s (An (nxM (nxM (dcM m)))).2
  simp only[RO,jL3]
  omega
 rw[if_neg h9]
 by_cases h11:(nxV 18 (dcM m)==11)=true
 ·rw[if_pos h11]
  have y1n:=QZ (nxV 4 (nxM (dcM m)))
  have y2:=Oc (IntKind.i64.wrap (nxV 4 (nxM (dcM m))+IntKind.i64.wrap ((nxV 9 (nxM (nxM (dcM m)))).tdiv 8))) s (nxM (nxM (nxM (dcM m))))
  simp only[TF,jL3]
  omega
 rw[if_neg h11]
 by_cases h12:(nxV 18 (dcM m)==12)=true
 ·rw[if_pos h12]
  have y0:=CU 1 (nxM (dcM m))
  simp only[TG,jL3]
  omega
 rw[if_neg h12]
 by_cases h13:(nxV 18 (dcM m)==13)=true
 ·rw[if_pos h13]
  have y0:=GK 1 s (nxM (dcM m))
  simp only[TH,jL3]
  omega
 rw[if_neg h13]
 by_cases hbase:(!dp)=true
 ·rw[if_pos hbase]
  have y0:=Cu (nxM (dcM m))
  have y1:=CU 1 (An (nxM (dcM m))).2
  simp only[Pd,jL3]
  omega
 rw[if_neg hbase]
 by_cases hif:(nxV 2 (nxM (dcM m))==0)=true
 ·rw[if_pos hif]
  by_cases hel:(stV B s m==0)=true
  ·rw[if_pos hel]
   have y1:=GK 1 s (nxM (nxM (dcM m)))
   have y2:=hBl (Al 1 s (nxM (nxM (dcM m)))).2
   have y4:=hBl (nxM (B (Al 1 s (nxM (nxM (dcM m)))).2).2)
   simp only[Pe,jL3]
   omega
  ·rw[if_neg hel]
   have y1:=GK 1 s (nxM (nxM (dcM m)))
   have y2:=hBl (Al 1 s (nxM (nxM (dcM m)))).2
   simp only[TI,jL3]
   omega
 ·rw[if_neg hif]
  have y1:=GK 1 s (nxM (nxM (dcM m)))
  have y2:=hBl (Al 1 s (nxM (nxM (dcM m)))).2
  simp only[Nq,jL3]
  omega
def stC:Nat→Int
 |0=>60
 |k+1=>60+2*(1+3*stC k)
def stL:Nat→Nat
 |0=>400
 |k+1=>400+2*(4+3*stL k)
theorem Qa:∀k,60≤stC k
 |0=>Int.le_refl _
 |k+1=>by have:=Qa k;simp only[stC];omega
theorem TK:∀k,k≤3→stL k≤200000
 |0,_=>by decide
 |1,_=>by decide
 |2,_=>by decide
 |3,_=>by decide
theorem TL:∀(k:Nat) {s:Int} {m:Mk},okM m (stC k)→Ax m (stT k s m).2 (stC k)
 |0,s,m,h=>(cK (K:=0) (Int.le_refl _) (fun q _=>Ax.refl q) (h.mono (by decide))).mono (by decide)
 |k+1,s,m,h=>by
  have h1:=Qa k
  simp only[stC]at h ⊢
  exact cK (K:=1+3*stC k) (by omega) (fun q hq=>cJ (by omega) (fun r hr=>TL k hr) q hq) h
theorem Of:∀(k:Nat) (s:Int) (m:Mk),(stT k s m).1.length≤stL k
 |0,s,m=>Yv (L:=0) (fun q=>Nat.le_refl _) s m
 |k+1,s,m=>Yv (L:=4+3*stL k) (fun q=>Yu (fun r=>Of k s r) q) s m
abbrev N1 (n:Nat) (m:Mk) (s:Int) (d:Int):Prop:=okM m (stC d.toNat)∧0≤d∧d<(n:Int)∧d≤3
abbrev CN (n:Nat) (m:Mk) (s:Int) (d:Int):SV:=.one (.v (.string (bs (stT d.toNat s m).1)))
abbrev C5 (n:Nat) (m:Mk) (s:Int) (d:Int):List (Option MV):=[some (zMk,[(stT d.toNat s m).2.c])]
noncomputable abbrev Jf:ArgM ((Mk)×(Int)×(Int)×Unit):=(amP (mMk) (amD (cInt .i64) (amD (cInt .i64) am0)))
abbrev N2 (n:Nat):Prop:=Bs Try.prog 69 ((Jf).args 0) (Jf).mem (fun p:(Mk)×(Int)×(Int)×Unit=>N1 n p.1 p.2.1 p.2.2.1) (fun p:(Mk)×(Int)×(Int)×Unit=>CN n p.1 p.2.1 p.2.2.1) (fun p:(Mk)×(Int)×(Int)×Unit=>C5 n p.1 p.2.1 p.2.2.1)
theorem gD (n:Nat):∀p,(fun p:(Mk)×(Int)×(Int)×Unit=>N1 n p.1 p.2.1 p.2.2.1) p→Cm ((Jf).mem p).length ((fun p:(Mk)×(Int)×(Int)×Unit=>C5 n p.1 p.2.1 p.2.2.1) p)=true:=by intro p _;rfl
theorem gE (n:Nat):∀p,(fun p:(Mk)×(Int)×(Int)×Unit=>N1 n p.1 p.2.1 p.2.2.1) p→As ((fun p:(Mk)×(Int)×(Int)×Unit=>C5 n p.1 p.2.1 p.2.2.1) p).length ((fun p:(Mk)×(Int)×(Int)×Unit=>CN n p.1 p.2.1 p.2.2.1) p)=true:=by intro p _;first|rfl|exact AO _ _|exact AP _ _|(simp[As,Bz,AO,AP];done)
theorem gG (n:Nat):∀p,(fun p:(Mk)×(Int)×(Int)×Unit=>N1 n p.1 p.2.1 p.2.2.1) p→∀q,some q∈(fun p:(Mk)×(Int)×(Int)×Unit=>C5 n p.1 p.2.1 p.2.2.1) p→∀r∈q.2,∀c∈r,c.names=[]:=by intro p _;exact KD _
noncomputable def Dc {X:Ctx} {w0:World} (n:Nat) (h:N2 n):Sy.Spec Try.prog X w0:=CY 69 Try.call69 (Jf) (fun p:(Mk)×(Int)×(Int)×Unit=>N1 n p.1 p.2.1 p.2.2.1) (fun p:(Mk)×(Int)×(Int)×Unit=>CN n p.1 p.2.1 p.2.2.1) (fun p:(Mk)×(Int)×(Int)×Unit=>C5 n p.1 p.2.1 p.2.2.1) (gD n) (gE n) (gG n) h
abbrev Lm (n:Nat) (m:Mk) (s:Int) (d:Int):Prop:=okM m (1+3*stC (d-1).toNat)∧1≤d∧d-1<(n:Int)∧d≤3
abbrev Ln (n:Nat) (m:Mk) (s:Int) (d:Int):SV:=.one (.v (.string (bs (HA (stT (d-1).toNat s) m).1)))
abbrev IL (n:Nat) (m:Mk) (s:Int) (d:Int):List (Option MV):=[some (zMk,[(HA (stT (d-1).toNat s) m).2.c])]
noncomputable abbrev IM:ArgM ((Mk)×(Int)×(Int)×Unit):=(amP (mMk) (amD (cInt .i64) (amD (cInt .i64) am0)))
abbrev Vc (n:Nat):Prop:=Bs Try.prog 84 ((IM).args 0) (IM).mem (fun p:(Mk)×(Int)×(Int)×Unit=>Lm n p.1 p.2.1 p.2.2.1) (fun p:(Mk)×(Int)×(Int)×Unit=>Ln n p.1 p.2.1 p.2.2.1) (fun p:(Mk)×(Int)×(Int)×Unit=>IL n p.1 p.2.1 p.2.2.1)
theorem cL (n:Nat):∀p,(fun p:(Mk)×(Int)×(Int)×Unit=>Lm n p.1 p.2.1 p.2.2.1) p→Cm ((IM).mem p).length ((fun p:(Mk)×(Int)×(Int)×Unit=>IL n p.1 p.2.1 p.2.2.1) p)=true:=by intro p _;rfl
theorem cM (n:Nat):∀p,(fun p:(Mk)×(Int)×(Int)×Unit=>Lm n p.1 p.2.1 p.2.2.1) p→As ((fun p:(Mk)×(Int)×(Int)×Unit=>IL n p.1 p.2.1 p.2.2.1) p).length ((fun p:(Mk)×(Int)×(Int)×Unit=>Ln n p.1 p.2.1 p.2.2.1) p)=true:=by intro p _;first|rfl|exact AO _ _|exact AP _ _|(simp[As,Bz,AO,AP];done)
theorem cN (n:Nat):∀p,(fun p:(Mk)×(Int)×(Int)×Unit=>Lm n p.1 p.2.1 p.2.2.1) p→∀q,some q∈(fun p:(Mk)×(Int)×(Int)×Unit=>IL n p.1 p.2.1 p.2.2.1) p→∀r∈q.2,∀c∈r,c.names=[]:=by intro p _;exact KD _
noncomputable def Vd {X:Ctx} {w0:World} (n:Nat) (h:Vc n):Sy.Spec Try.prog X w0:=CY 84 Try.call84 (IM) (fun p:(Mk)×(Int)×(Int)×Unit=>Lm n p.1 p.2.1 p.2.2.1) (fun p:(Mk)×(Int)×(Int)×Unit=>Ln n p.1 p.2.1 p.2.2.1) (fun p:(Mk)×(Int)×(Int)×Unit=>IL n p.1 p.2.1 p.2.2.1) (cL n) (cM n) (cN n) h
attribute [local go_sem] Mk.c zBy
theorem gH (n:Nat) (hu:N2 n):Vc n:=by
 rintro ⟨m,s,d,_u⟩ w M I lab fz xs hc hA hl hx
 refine Am Try.func84 rfl ((IM).mem ⟨m,s,d,_u⟩) w M I lab fz [Bk,(Dc n hu)] [] ((IM).args 0 ⟨m,s,d,_u⟩) ((fun p:(Mk)×(Int)×(Int)×Unit=>IL n p.1 p.2.1 p.2.2.1) ⟨m,s,d,_u⟩) ((fun p:(Mk)×(Int)×(Int)×Unit=>Ln n p.1 p.2.1 p.2.2.1) ⟨m,s,d,_u⟩) xs hA hl hx (fun v hv k hk=>by have:=(IM).an 0 ⟨m,s,d,_u⟩ v hv k hk;omega) (jN rfl) (jN rfl) ?_
 clear hx hl hA xs
 simp only[Try.f84]
 obtain⟨o0,g0,g1,g2⟩:=hc
 dsimp only at o0 g0 g1 g2
 obtain⟨d',hd'⟩:∃d':Int,d'=d-1:=⟨_,rfl⟩
 have hdw:IntKind.i64.wrap (d-1)=d':=by rw[hd'];exact wrap_i64 (by omega) (by omega)
 obtain⟨k,hk⟩:∃k:Nat,(d-1).toNat=k:=⟨_,rfl⟩
 have hk':d'.toNat=k:=by rw[hd'];exact hk
 rw[hk]at o0
 have p0:0≤d':=by omega
 have p1:d'<(n:Int):=by omega
 have p2:d'≤3:=by omega
 have hk3:k≤3:=by omega
 have c0:=Qa k
 have hL:=TK k hk3
 have a1:=BX (okM.mono o0 (by omega))
 have o1:okM (nxM m) (3*stC k):=a1.ok o0
 have hv:=D2 (j:=4) o0 (by decide)
 obtain⟨c,hc⟩:∃c:Nat,nxV 4 m=(c:Int):=⟨_,(Int.toNat_of_nonneg hv.1).symm⟩
 have hc3:c≤3:=by omega
 have hct:(nxV 4 m).toNat=c:=by omega
 have hr:HA (stT k s) m=((Gf (stT k s) c [123,32] (nxM m)).1++[125,32],(Gf (stT k s) c [123,32] (nxM m)).2):=by unfold HA;rw[hct]
 simp only[↓eB,seval,go_sem,Bk,KE,D3,Hd,Gc,Je,Mz,Ec,Dc,Em,El,En,Dh,Oe,DE,Dw,Dx,Dy,Dz,E0,E1,E2,E3,E4,tn0,tn1,tn2,hc]
 refine⟨⟨okM.mono o0 (by omega),by decide⟩,?_⟩
 refine Ab (Y:=Nat×List UInt8×Mk) (fun y=>y.1≤3∧okM y.2.2 (bc (stC k) y.1)∧y.2.1.length+bn (stL k) y.1≤3*stL k+2∧Gf (stT k s) y.1 y.2.1 y.2.2=Gf (stT k s) c [123,32] (nxM m))
  (fun y=>⟨[(0,true,.one (.p 0 0 0)),(1,true,.one (.v (.int .i64 s))),(2,true,.one (.v (.int .i64 d))),(7,true,.one (.v (.string (bs y.2.1)))),(8,true,.one (.v (.int .i64 (y.1:Int))))],[(0,.vec 0 zMk [y.2.2.c])]⟩)
  (fun y=>y.1) (c,[123,32],nxM m) ⟨hc3,okM.mono o1 (kM (by omega) c hc3),by have:=kN (c:=stL k) c hc3;simp only[length_cons,length_nil];omega,rfl⟩ ?_ ?_
 ·refine A4 [] ?_;simp only[↓eB,seval,go_sem]
 ·rintro ⟨j,acc,q⟩ ⟨h1,h2,h3,h4⟩
  refine Au [Bk,Dc n hu] [] _ _ _ ?_
  dsimp only at h1 h2 h3 h4
  cases j with
  |zero=>
   simp only[Gf]at h4
   rw[← h4]at hr
   have e0:decide ((0:Int)<((0:Nat):Int))=false:=rfl
   simp only[↓eB,seval,go_sem,Bk,KE,D3,Hd,Gc,Je,Mz,Ec,Dc,Em,El,En,Dh,Oe,DE,Dw,Dx,Dy,Dz,E0,E1,E2,E3,E4,tn0,tn1,tn2,e0]
   try simp only[A2,A3]
   repeat' first|exact ck|with_reducible apply And.intro|intro _
   all_goals first|(simp only[bn,length_cons,length_nil]at *;omega)|(rename_i h;first|exact oI h|exact nah h)|(rename_i _ h _ g;exact sL h g)|decide|omega|(refine A0 [] ?_;simp only[↓eB,seval,go_sem,bne,Ln,IL,hk,hr,Em,El,En,Dh,Oe,DE,Dw,Dx,Dy,Dz,E0,E1,E2,E3,E4,tn0,tn1,tn2])
  |succ j=>
   simp only[Gf,bc,bn]at h2 h3 h4
   have e0:decide ((0:Int)<((j+1:Nat):Int))=true:=decide_eq_true (by omega)
   have e1:IntKind.i64.wrap (((j+1:Nat):Int)-1)=(j:Int):=by rw[wrap_i64 (by omega) (by omega)];omega
   have hb0:=TJ (c:=stC k) (by omega) j
   have oq:okM q (stC k):=okM.mono h2 (by omega)
   have a2:=TL k (s:=s) oq
   have l2:=Of k s q
   simp only[↓eB,seval,go_sem,Bk,KE,D3,Hd,Gc,Je,Mz,Ec,Dc,Em,El,En,Dh,Oe,DE,Dw,Dx,Dy,Dz,E0,E1,E2,E3,E4,tn0,tn1,tn2,e0,e1,hdw,hk']
   try simp only[A2,A3]
   repeat' first|exact ck|with_reducible apply And.intro|intro _
   all_goals try first|(rw[hk'];exact oq)|exact oq|exact p0|exact p1|exact p2|(omega)|(rename_i h;first|exact oI h|exact nah h)|(rename_i _ h _ g;exact sL h g)|decide|omega
   refine⟨(j,acc++(stT k s q).1,(stT k s q).2),⟨by omega,a2.ok h2,by simp only[length_append];omega,h4⟩,Nat.lt_succ_self _,A4 [] ?_⟩
   simp only[↓eB,seval,go_sem]
attribute[local go_sem] Dz Dy Oe E2 E3 Dw En Em El Dh E4 E0 DE Dx tn0 tn1 tn2 E1 Vd Je Gc Ec D3 Mz Bk KE Hd in
theorem gI (n:Nat) (hu:N2 n):N2 (n+1):=by
 rintro ⟨m,s,d,_u⟩ w M I lab fz xs hc hA hl hx
 refine Am Try.func69 rfl ((Jf).mem ⟨m,s,d,_u⟩) w M I lab fz [Bk,KE,D3,Hd,(Gc 3 (TE 3)),(Je 2 (Yt 2)),Mz,Ec,(Vd n (gH n hu))] [] ((Jf).args 0 ⟨m,s,d,_u⟩) ((fun p:(Mk)×(Int)×(Int)×Unit=>C5 (n+1) p.1 p.2.1 p.2.2.1) ⟨m,s,d,_u⟩) ((fun p:(Mk)×(Int)×(Int)×Unit=>CN (n+1) p.1 p.2.1 p.2.2.1) ⟨m,s,d,_u⟩) xs hA hl hx (fun v hv k hk=>by have:=(Jf).an 0 ⟨m,s,d,_u⟩ v hv k hk;omega) (jN rfl) (jN rfl) ?_
 clear hx hl hA xs
 simp only[Try.f69]
 obtain⟨oS,g0,g1,g2⟩:=hc
 dsimp only at oS g0 g1 g2
 have c9:=Qa d.toNat
 have oD:okM (dcM m) (stC d.toNat):=kL oS
 obtain⟨dp,B,hS⟩:∃dp B,stT d.toNat s m=stB dp B s m:=by cases d.toNat<;>exact⟨_,_,rfl⟩
 have e90:=Oe m
 cases eN:decide (IntKind.i64.wrap (m.n-1)<0) with
 |true=>
  have hn:decide ((dcM m).n<0)=true:=eN
  have y0:=TD (dcM m)
  have hr:stT d.toNat s m=(([114,101,116,117,114,110,32]++(nuT (dcM m)).1)++[59,32],(nuT (dcM m)).2):=by rw[hS];unfold stB;rw[if_pos hn]
  simp only[↓eB,seval,go_sem,eN]
  try simp only[A2,A3]
  repeat' first|exact ck|with_reducible apply And.intro|intro _
  all_goals first|exact okM.mono oD (by omega)|(simp only[jL3]at *;omega)|(rename_i h;first|exact oI h|exact nah h)|(rename_i _ h _ g;exact sL h g)|decide|omega|(refine A0 [] ?_;simp only[↓eB,seval,go_sem,bne,CN,C5,hr])
 |false=>
 have hn:¬decide ((dcM m).n<0)=true:=by rw[show decide ((dcM m).n<0)=false from eN];decide
 have a1:=BX (okM.mono oD (by omega))
 have o1:okM (nxM (dcM m)) 59:=a1.ok (okM.mono oD (by omega))
 have hv:=D2 (j:=18) oD (by decide)
 cases e0:(nxV 18 (dcM m)==0) with
 |true=>
  have y0:=Cu (nxM (dcM m))
  have x1:=Eo (okM.mono o1 (by omega))
  have x1o:=x1.okd o1
  have y1:=CU 2 (An (nxM (dcM m))).2
  have x2:=DN 2 (okM.mono x1o (by omega))
  have x2o:=x2.okd x1o
  have h0:(decide (nxV 18 (dcM m)<3))=true:=decide_eq_true (by have:=eq_of_beq e0;omega)
  have hr:stT d.toNat s m=Np B s m:=by rw[hS];unfold stB;rw[if_neg hn,if_pos h0]
  simp only[↓eB,seval,go_sem,eN,e0]
  try simp only[A2,A3]
  repeat' first|exact ck|with_reducible apply And.intro|intro _
  all_goals first|(refine okM.mono (by assumption) ?_;omega)|exact g0|exact g1|exact g2|(omega)|(simp only[jL3]at *;omega)|(rename_i h;first|exact oI h|exact nah h)|(rename_i _ h _ g;exact sL h g)|decide|omega|(refine A0 [] ?_;simp only[↓eB,seval,go_sem,bne,CN,C5,hr,Np])
 |false=>
 cases e1:(nxV 18 (dcM m)==1) with
 |true=>
  have y0:=Cu (nxM (dcM m))
  have x1:=Eo (okM.mono o1 (by omega))
  have x1o:=x1.okd o1
  have y1:=CU 2 (An (nxM (dcM m))).2
  have x2:=DN 2 (okM.mono x1o (by omega))
  have x2o:=x2.okd x1o
  have h0:(decide (nxV 18 (dcM m)<3))=true:=decide_eq_true (by have:=eq_of_beq e1;omega)
  have hr:stT d.toNat s m=Np B s m:=by rw[hS];unfold stB;rw[if_neg hn,if_pos h0]
  simp only[↓eB,seval,go_sem,eN,e0,e1]
  try simp only[A2,A3]
  repeat' first|exact ck|with_reducible apply And.intro|intro _
  all_goals first|(refine okM.mono (by assumption) ?_;omega)|exact g0|exact g1|exact g2|(omega)|(simp only[jL3]at *;omega)|(rename_i h;first|exact oI h|exact nah h)|(rename_i _ h _ g;exact sL h g)|decide|omega|(refine A0 [] ?_;simp only[↓eB,seval,go_sem,bne,CN,C5,hr,Np])
 |false=>
 cases e2:(nxV 18 (dcM m)==2) with
 |true=>
  have y0:=Cu (nxM (dcM m))
  have x1:=Eo (okM.mono o1 (by omega))
  have x1o:=x1.okd o1
  have y1:=CU 2 (An (nxM (dcM m))).2
  have x2:=DN 2 (okM.mono x1o (by omega))
  have x2o:=x2.okd x1o
  have h0:(decide (nxV 18 (dcM m)<3))=true:=decide_eq_true (by have:=eq_of_beq e2;omega)
  have hr:stT d.toNat s m=Np B s m:=by rw[hS];unfold stB;rw[if_neg hn,if_pos h0]
  simp only[↓eB,seval,go_sem,eN,e0,e1,e2]
  try simp only[A2,A3]
  repeat' first|exact ck|with_reducible apply And.intro|intro _
  all_goals first|(refine okM.mono (by assumption) ?_;omega)|exact g0|exact g1|exact g2|(omega)|(simp only[jL3]at *;omega)|(rename_i h;first|exact oI h|exact nah h)|(rename_i _ h _ g;exact sL h g)|decide|omega|(refine A0 [] ?_;simp only[↓eB,seval,go_sem,bne,CN,C5,hr,Np])
 |false=>
 have h0:¬(decide (nxV 18 (dcM m)<3))=true:=by have n0:nxV 18 (dcM m)≠0:=(by simpa using e0);have n1:nxV 18 (dcM m)≠1:=(by simpa using e1);have n2:nxV 18 (dcM m)≠2:=(by simpa using e2);simp only[decide_eq_true_eq];omega
 cases e3:(nxV 18 (dcM m)==3) with
 |true=>
  have y0:=G0 s (nxM (dcM m))
  have x1:=Ix (s:=s) (okM.mono o1 (by omega))
  have x1o:=x1.okd o1
  have y1:=Yo (nxV 2 (pvT s (nxM (dcM m))).2).toNat
  have z1:=D2 (j:=2) x1o (by decide)
  have x2:=BX (okM.mono x1o (by omega))
  have x2o:=x2.okd x1o
  have h3:(nxV 18 (dcM m)==3)=true:=e3
  have hr:stT d.toNat s m=WI B s m:=by rw[hS];unfold stB;rw[if_neg hn,if_neg h0,if_pos h3]
  simp only[↓eB,seval,go_sem,eN,e0,e1,e2,e3]
  try simp only[A2,A3]
  repeat' first|exact ck|with_reducible apply And.intro|intro _
  all_goals first|(refine okM.mono (by assumption) ?_;omega)|exact z1|exact g0|exact g1|exact g2|(omega)|(simp only[jL3]at *;omega)|(rename_i h;first|exact oI h|exact nah h)|(rename_i _ h _ g;exact sL h g)|decide|omega|(refine A0 [] ?_;simp only[↓eB,seval,go_sem,bne,CN,C5,hr,WI])
 |false=>
 have h3:¬(nxV 18 (dcM m)==3)=true:=by rw[e3];decide
 cases e4:(nxV 18 (dcM m)==4) with
 |true=>
  have y0:=G0 s (nxM (dcM m))
  have x1:=Ix (s:=s) (okM.mono o1 (by omega))
  have x1o:=x1.okd o1
  have y1:=Yp (nxV 2 (pvT s (nxM (dcM m))).2).toNat
  have z1:=D2 (j:=2) x1o (by decide)
  have x2:=BX (okM.mono x1o (by omega))
  have x2o:=x2.okd x1o
  have h4:(nxV 18 (dcM m)==4)=true:=e4
  have hr:stT d.toNat s m=WJ B s m:=by rw[hS];unfold stB;rw[if_neg hn,if_neg h0,if_neg h3,if_pos h4]
  simp only[↓eB,seval,go_sem,eN,e0,e1,e2,e3,e4]
  try simp only[A2,A3]
  repeat' first|exact ck|with_reducible apply And.intro|intro _
  all_goals first|(refine okM.mono (by assumption) ?_;omega)|exact z1|exact g0|exact g1|exact g2|(omega)|(simp only[jL3]at *;omega)|(rename_i h;first|exact oI h|exact nah h)|(rename_i _ h _ g;exact sL h g)|decide|omega|(refine A0 [] ?_;simp only[↓eB,seval,go_sem,bne,CN,C5,hr,WJ])
 |false=>
 have h4:¬(nxV 18 (dcM m)==4)=true:=by rw[e4];decide
 cases e5:(nxV 18 (dcM m)==5) with
 |true=>
  have y0:=Cu (nxM (dcM m))
  have x1:=Eo (okM.mono o1 (by omega))
  have x1o:=x1.okd o1
  have y1:=G0 s (An (nxM (dcM m))).2
  have x2:=Ix (s:=s) (okM.mono x1o (by omega))
  have x2o:=x2.okd x1o
  have h5:(nxV 18 (dcM m)==5)=true:=e5
  have hr:stT d.toNat s m=WK B s m:=by rw[hS];unfold stB;rw[if_neg hn,if_neg h0,if_neg h3,if_neg h4,if_pos h5]
  simp only[↓eB,seval,go_sem,eN,e0,e1,e2,e3,e4,e5]
  try simp only[A2,A3]
  repeat' first|exact ck|with_reducible apply And.intro|intro _
  all_goals first|(refine okM.mono (by assumption) ?_;omega)|exact g0|exact g1|exact g2|(omega)|(simp only[jL3]at *;omega)|(rename_i h;first|exact oI h|exact nah h)|(rename_i _ h _ g;exact sL h g)|decide|omega|(refine A0 [] ?_;simp only[↓eB,seval,go_sem,bne,CN,C5,hr,WK])
 |false=>
 have h5:¬(nxV 18 (dcM m)==5)=true:=by rw[e5];decide
 cases e6:(nxV 18 (dcM m)==6) with
 |true=>
  have y0:=G0 s (nxM (dcM m))
  have x1:=Ix (s:=s) (okM.mono o1 (by omega))
  have x1o:=x1.okd o1
  have y1:=CU 1 (pvT s (nxM (dcM m))).2
  have x2:=DN 1 (okM.mono x1o (by omega))
  have x2o:=x2.okd x1o
  have h6:(nxV 18 (dcM m)==6)=true:=e6
  have hr:stT d.toNat s m=WL B s m:=by rw[hS];unfold stB;rw[if_neg hn,if_neg h0,if_neg h3,if_neg h4,if_neg h5,if_pos h6]
  simp only[↓eB,seval,go_sem,eN,e0,e1,e2,e3,e4,e5,e6]
  try simp only[A2,A3]
  repeat' first|exact ck|with_reducible apply And.intro|intro _
  all_goals first|(refine okM.mono (by assumption) ?_;omega)|exact g0|exact g1|exact g2|(omega)|(simp only[jL3]at *;omega)|(rename_i h;first|exact oI h|exact nah h)|(rename_i _ h _ g;exact sL h g)|decide|omega|(refine A0 [] ?_;simp only[↓eB,seval,go_sem,bne,CN,C5,hr,WL])
 |false=>
 have h6:¬(nxV 18 (dcM m)==6)=true:=by rw[e6];decide
 cases e7:(nxV 18 (dcM m)==7) with
 |true=>
  have y0:=Cu (nxM (dcM m))
  have x1:=Eo (okM.mono o1 (by omega))
  have x1o:=x1.okd o1
  have y1:=RL (nxV 2 (An (nxM (dcM m))).2).toNat
  have z1:=D2 (j:=2) x1o (by decide)
  have x2:=BX (okM.mono x1o (by omega))
  have x2o:=x2.okd x1o
  have y2:=CU 1 (nxM (An (nxM (dcM m))).2)
  have x3:=DN 1 (okM.mono x2o (by omega))
  have x3o:=x3.okd x2o
  have h7:(nxV 18 (dcM m)==7)=true:=e7
  have hr:stT d.toNat s m=WM B s m:=by rw[hS];unfold stB;rw[if_neg hn,if_neg h0,if_neg h3,if_neg h4,if_neg h5,if_neg h6,if_pos h7]
  simp only[↓eB,seval,go_sem,eN,e0,e1,e2,e3,e4,e5,e6,e7]
  try simp only[A2,A3]
  repeat' first|exact ck|with_reducible apply And.intro|intro _
  all_goals first|(refine okM.mono (by assumption) ?_;omega)|exact z1|exact g0|exact g1|exact g2|(omega)|(simp only[jL3]at *;omega)|(rename_i h;first|exact oI h|exact nah h)|(rename_i _ h _ g;exact sL h g)|decide|omega|(refine A0 [] ?_;simp only[↓eB,seval,go_sem,bne,CN,C5,hr,WM])
 |false=>
 have h7:¬(nxV 18 (dcM m)==7)=true:=by rw[e7];decide
 cases e8:(nxV 18 (dcM m)==8) with
 |true=>
  have y0:=RL (nxV 2 (nxM (dcM m))).toNat
  have z0:=D2 (j:=2) o1 (by decide)
  have x1:=BX (okM.mono o1 (by omega))
  have x1o:=x1.okd o1
  have y1:=CU 1 (nxM (nxM (dcM m)))
  have x2:=DN 1 (okM.mono x1o (by omega))
  have x2o:=x2.okd x1o
  have y2:=CU 1 (AW 1 (nxM (nxM (dcM m)))).2
  have x3:=DN 1 (okM.mono x2o (by omega))
  have x3o:=x3.okd x2o
  have h8:(nxV 18 (dcM m)==8)=true:=e8
  have hr:stT d.toNat s m=WN B s m:=by rw[hS];unfold stB;rw[if_neg hn,if_neg h0,if_neg h3,if_neg h4,if_neg h5,if_neg h6,if_neg h7,if_pos h8]
  simp only[↓eB,seval,go_sem,eN,e0,e1,e2,e3,e4,e5,e6,e7,e8]
  try simp only[A2,A3]
  repeat' first|exact ck|with_reducible apply And.intro|intro _
  all_goals first|(refine okM.mono (by assumption) ?_;omega)|exact z0|exact g0|exact g1|exact g2|(omega)|(simp only[jL3]at *;omega)|(rename_i h;first|exact oI h|exact nah h)|(rename_i _ h _ g;exact sL h g)|decide|omega|(refine A0 [] ?_;simp only[↓eB,seval,go_sem,bne,CN,C5,hr,WN])
 |false=>
 have h8:¬(nxV 18 (dcM m)==8)=true:=by rw[e8];decide
 cases e9:(nxV 18 (dcM m)==9) with
 |true=>
  have z0:=D2 (j:=4) o1 (by decide)
  have x1:=BX (okM.mono o1 (by omega))
  have x1o:=x1.okd o1
  have y1:=Cu (nxM (nxM (dcM m)))
  have x2:=Eo (okM.mono x1o (by omega))
  have x2o:=x2.okd x1o
  have y2n:=QZ (nxV 4 (nxM (dcM m)))
  have y2:=Oc (nxV 4 (nxM (dcM m))) s (An (nxM (nxM (dcM m)))).2
  have x3:=QY (t:=nxV 4 (nxM (dcM m))) (s:=s) (okM.mono x2o (by omega))
  have x3o:=x3.okd x2o
  have h9:(decide (nxV 18 (dcM m)<11))=true:=decide_eq_true (by have:=eq_of_beq e9;omega)
  have hr:stT d.toNat s m=RO B s m:=by rw[hS];unfold stB;rw[if_neg hn,if_neg h0,if_neg h3,if_neg h4,if_neg h5,if_neg h6,if_neg h7,if_neg h8,if_pos h9]
  simp only[↓eB,seval,go_sem,eN,e0,e1,e2,e3,e4,e5,e6,e7,e8,e9]
  try simp only[A2,A3]
  repeat' first|exact ck|with_reducible apply And.intro|intro _
  all_goals first|(refine okM.mono (by assumption) ?_;omega)|exact z0|exact z0.1|exact g0|exact g1|exact g2|(omega)|(simp only[jL3]at *;omega)|(rename_i h;first|exact oI h|exact nah h)|(rename_i _ h _ g;exact sL h g)|decide|omega|(refine A0 [] ?_;simp only[↓eB,seval,go_sem,bne,CN,C5,hr,RO])
 |false=>
 cases e10:(nxV 18 (dcM m)==10) with
 |true=>
  have z0:=D2 (j:=4) o1 (by decide)
  have x1:=BX (okM.mono o1 (by omega))
  have x1o:=x1.okd o1
  have y1:=Cu (nxM (nxM (dcM m)))
  have x2:=Eo (okM.mono x1o (by omega))
  have x2o:=x2.okd x1o
  have y2n:=QZ (nxV 4 (nxM (dcM m)))
  have y2:=Oc (nxV 4 (nxM (dcM m))) s (An (nxM (nxM (dcM m)))).2
  have x3:=QY (t:=nxV 4 (nxM (dcM m))) (s:=s) (okM.mono x2o (by omega))
  have x3o:=x3.okd x2o
  have h9:(decide (nxV 18 (dcM m)<11))=true:=decide_eq_true (by have:=eq_of_beq e10;omega)
  have hr:stT d.toNat s m=RO B s m:=by rw[hS];unfold stB;rw[if_neg hn,if_neg h0,if_neg h3,if_neg h4,if_neg h5,if_neg h6,if_neg h7,if_neg h8,if_pos h9]
  simp only[↓eB,seval,go_sem,eN,e0,e1,e2,e3,e4,e5,e6,e7,e8,e9,e10]
  try simp only[A2,A3]
  repeat' first|exact ck|with_reducible apply And.intro|intro _
  all_goals first|(refine okM.mono (by assumption) ?_;omega)|exact z0|exact z0.1|exact g0|exact g1|exact g2|(omega)|(simp only[jL3]at *;omega)|(rename_i h;first|exact oI h|exact nah h)|(rename_i _ h _ g;exact sL h g)|decide|omega|(refine A0 [] ?_;simp only[↓eB,seval,go_sem,bne,CN,C5,hr,RO])
 |false=>
 have h9:¬(decide (nxV 18 (dcM m)<11))=true:=by have k0:¬(nxV 18 (dcM m)<3):=(by simpa using h0);have n3:nxV 18 (dcM m)≠3:=(by simpa using e3);have n4:nxV 18 (dcM m)≠4:=(by simpa using e4);have n5:nxV 18 (dcM m)≠5:=(by simpa using e5);have n6:nxV 18 (dcM m)≠6:=(by simpa using e6);have n7:nxV 18 (dcM m)≠7:=(by simpa using e7);have n8:nxV 18 (dcM m)≠8:=(by simpa using e8);have n9:nxV 18 (dcM m)≠9:=(by simpa using e9);have n10:nxV 18 (dcM m)≠10:=(by simpa using e10);simp only[decide_eq_true_eq];omega
 cases e11:(nxV 18 (dcM m)==11) with
 |true=>
  have z0:=D2 (j:=4) o1 (by decide)
  have x1:=BX (okM.mono o1 (by omega))
  have x1o:=x1.okd o1
  have y1n:=QZ (nxV 4 (nxM (dcM m)))
  have z1:=D2 (j:=9) x1o (by decide)
  have x2:=BX (okM.mono x1o (by omega))
  have x2o:=x2.okd x1o
  have y2:=Oc (IntKind.i64.wrap (nxV 4 (nxM (dcM m))+IntKind.i64.wrap ((nxV 9 (nxM (nxM (dcM m)))).tdiv 8))) s (nxM (nxM (nxM (dcM m))))
  have x3:=QY (t:=IntKind.i64.wrap (nxV 4 (nxM (dcM m))+IntKind.i64.wrap ((nxV 9 (nxM (nxM (dcM m)))).tdiv 8))) (s:=s) (okM.mono x2o (by omega))
  have x3o:=x3.okd x2o
  have h11:(nxV 18 (dcM m)==11)=true:=e11
  have hr:stT d.toNat s m=TF B s m:=by rw[hS];unfold stB;rw[if_neg hn,if_neg h0,if_neg h3,if_neg h4,if_neg h5,if_neg h6,if_neg h7,if_neg h8,if_neg h9,if_pos h11]
  simp only[↓eB,seval,go_sem,eN,e0,e1,e2,e3,e4,e5,e6,e7,e8,e9,e10,e11]
  try simp only[A2,A3]
  repeat' first|exact ck|with_reducible apply And.intro|intro _
  all_goals first|(refine okM.mono (by assumption) ?_;omega)|exact z0|exact z0.1|exact z1|exact z1.1|exact g0|exact g1|exact g2|(omega)|(simp only[jL3]at *;omega)|(rename_i h;first|exact oI h|exact nah h)|(rename_i _ h _ g;exact sL h g)|decide|omega|(refine A0 [] ?_;simp only[↓eB,seval,go_sem,bne,CN,C5,hr,TF])
 |false=>
 have h11:¬(nxV 18 (dcM m)==11)=true:=by rw[e11];decide
 cases e12:(nxV 18 (dcM m)==12) with
 |true=>
  have y0:=CU 1 (nxM (dcM m))
  have x1:=DN 1 (okM.mono o1 (by omega))
  have x1o:=x1.okd o1
  have h12:(nxV 18 (dcM m)==12)=true:=e12
  have hr:stT d.toNat s m=TG B s m:=by rw[hS];unfold stB;rw[if_neg hn,if_neg h0,if_neg h3,if_neg h4,if_neg h5,if_neg h6,if_neg h7,if_neg h8,if_neg h9,if_neg h11,if_pos h12]
  simp only[↓eB,seval,go_sem,eN,e0,e1,e2,e3,e4,e5,e6,e7,e8,e9,e10,e11,e12]
  try simp only[A2,A3]
  repeat' first|exact ck|with_reducible apply And.intro|intro _
  all_goals first|(refine okM.mono (by assumption) ?_;omega)|exact g0|exact g1|exact g2|(omega)|(simp only[jL3]at *;omega)|(rename_i h;first|exact oI h|exact nah h)|(rename_i _ h _ g;exact sL h g)|decide|omega|(refine A0 [] ?_;simp only[↓eB,seval,go_sem,bne,CN,C5,hr,TG])
 |false=>
 have h12:¬(nxV 18 (dcM m)==12)=true:=by rw[e12];decide
 cases e13:(nxV 18 (dcM m)==13) with
 |true=>
  have y0:=GK 1 s (nxM (dcM m))
  have x1:=He 1 (s:=s) (okM.mono o1 (by omega))
  have x1o:=x1.okd o1
  have h13:(nxV 18 (dcM m)==13)=true:=e13
  have hr:stT d.toNat s m=TH B s m:=by rw[hS];unfold stB;rw[if_neg hn,if_neg h0,if_neg h3,if_neg h4,if_neg h5,if_neg h6,if_neg h7,if_neg h8,if_neg h9,if_neg h11,if_neg h12,if_pos h13]
  simp only[↓eB,seval,go_sem,eN,e0,e1,e2,e3,e4,e5,e6,e7,e8,e9,e10,e11,e12,e13]
  try simp only[A2,A3]
  repeat' first|exact ck|with_reducible apply And.intro|intro _
  all_goals first|(refine okM.mono (by assumption) ?_;omega)|exact g0|exact g1|exact g2|(omega)|(simp only[jL3]at *;omega)|(rename_i h;first|exact oI h|exact nah h)|(rename_i _ h _ g;exact sL h g)|decide|omega|(refine A0 [] ?_;simp only[↓eB,seval,go_sem,bne,CN,C5,hr,TH])
 |false=>
 have h13:¬(nxV 18 (dcM m)==13)=true:=by rw[e13];decide
 cases hd0:decide (d≤0) with
 |true=>
  have hz:d.toNat=0:=by have:=of_decide_eq_true hd0;omega
  have hS0:stT d.toNat s m=stB false (fun m=>([],m)) s m:=by rw[hz];rfl
  have y0:=Cu (nxM (dcM m))
  have x1:=Eo (okM.mono o1 (by omega))
  have x1o:=x1.okd o1
  have y1:=CU 1 (An (nxM (dcM m))).2
  have x2:=DN 1 (okM.mono x1o (by omega))
  have x2o:=x2.okd x1o
  have hr:stT d.toNat s m=Pd (fun m=>([],m)) s m:=by rw[hS0];unfold stB;rw[if_neg hn,if_neg h0,if_neg h3,if_neg h4,if_neg h5,if_neg h6,if_neg h7,if_neg h8,if_neg h9,if_neg h11,if_neg h12,if_neg h13,if_pos (show (!false)=true from rfl)]
  simp only[↓eB,seval,go_sem,eN,e0,e1,e2,e3,e4,e5,e6,e7,e8,e9,e10,e11,e12,e13,hd0]
  try simp only[A2,A3]
  repeat' first|exact ck|with_reducible apply And.intro|intro _
  all_goals first|(refine okM.mono (by assumption) ?_;omega)|exact g0|exact g1|exact g2|(omega)|(simp only[jL3]at *;omega)|(rename_i h;first|exact oI h|exact nah h)|(rename_i _ h _ g;exact sL h g)|decide|omega|(refine A0 [] ?_;simp only[↓eB,seval,go_sem,bne,CN,C5,hr,Pd])
 |false=>
  have hz:d.toNat=(d-1).toNat+1:=by have:=of_decide_eq_false hd0;omega
  have hS1:stT d.toNat s m=stB true (HA (stT (d-1).toNat s)) s m:=by rw[hz];rfl
  obtain⟨K,hK⟩:∃K:Int,K=1+3*stC (d-1).toNat:=⟨_,rfl⟩
  have c8:=Qa (d-1).toNat
  have hL:=TK (d-1).toNat (by omega)
  have g3:1≤d:=by have:=of_decide_eq_false hd0;omega
  have g4:d-1<(n:Int):=by omega
  have hC:stC d.toNat=60+2*K:=by rw[hz,hK];rfl
  have oK:okM (nxM (dcM m)) (59+2*K):=a1.ok (okM.mono oD (by omega))
  have hB:∀q,okM q K→Ax q ((HA (stT (d-1).toNat s)) q).2 K:=by rw[hK];exact fun q hq=>cJ (by omega) (fun r hr=>TL _ hr) q hq
  have hBl:∀q,((HA (stT (d-1).toNat s)) q).1.length≤4+3*stL (d-1).toNat:=fun q=>Yu (fun r=>Of _ s r) q
  have hdp:¬(!true)=true:=by decide
  cases ei:(nxV 2 (nxM (dcM m))==0) with
  |true=>
   cases ee:(nxV 2 ((HA (stT (d-1).toNat s)) (Al 1 s (nxM (nxM (dcM m)))).2).2==0) with
   |true=>
    have hel:(stV (HA (stT (d-1).toNat s)) s m==0)=true:=ee
    have z0:=D2 (j:=2) oK (by decide)
    have x1:=BX (okM.mono oK (by omega))
    have x1o:=x1.okd oK
    have y1:=GK 1 s (nxM (nxM (dcM m)))
    have x2:=He 1 (s:=s) (okM.mono x1o (by omega))
    have x2o:=x2.okd x1o
    have y2:=hBl (Al 1 s (nxM (nxM (dcM m)))).2
    have x3:=hB _ (okM.mono x2o (by omega))
    have x3o:=x3.okd x2o
    have z3:=D2 (j:=2) x3o (by decide)
    have x4:=BX (okM.mono x3o (by omega))
    have x4o:=x4.okd x3o
    have y4:=hBl (nxM ((HA (stT (d-1).toNat s)) (Al 1 s (nxM (nxM (dcM m)))).2).2)
    have x5:=hB _ (okM.mono x4o (by omega))
    have x5o:=x5.okd x4o
    have hr:stT d.toNat s m=Pe (HA (stT (d-1).toNat s)) s m:=by rw[hS1];unfold stB;rw[if_neg hn,if_neg h0,if_neg h3,if_neg h4,if_neg h5,if_neg h6,if_neg h7,if_neg h8,if_neg h9,if_neg h11,if_neg h12,if_neg h13,if_neg hdp,if_pos ei,if_pos hel]
    simp only[↓eB,seval,go_sem,eN,e0,e1,e2,e3,e4,e5,e6,e7,e8,e9,e10,e11,e12,e13,hd0,ei,ee]
    try simp only[A2,A3]
    repeat' first|exact ck|with_reducible apply And.intro|intro _
    all_goals first|(refine okM.mono (by assumption) ?_;omega)|exact z0|exact z0.1|exact z3|exact z3.1|exact g0|exact g1|exact g2|(omega)|(simp only[jL3]at *;omega)|(rename_i h;first|exact oI h|exact nah h)|(rename_i _ h _ g;exact sL h g)|decide|omega|(refine A0 [] ?_;simp only[↓eB,seval,go_sem,bne,CN,C5,hr,Pe])
   |false=>
    have hel:¬(stV (HA (stT (d-1).toNat s)) s m==0)=true:=by rw[show (stV (HA (stT (d-1).toNat s)) s m==0)=false from ee];decide
    have z0:=D2 (j:=2) oK (by decide)
    have x1:=BX (okM.mono oK (by omega))
    have x1o:=x1.okd oK
    have y1:=GK 1 s (nxM (nxM (dcM m)))
    have x2:=He 1 (s:=s) (okM.mono x1o (by omega))
    have x2o:=x2.okd x1o
    have y2:=hBl (Al 1 s (nxM (nxM (dcM m)))).2
    have x3:=hB _ (okM.mono x2o (by omega))
    have x3o:=x3.okd x2o
    have z3:=D2 (j:=2) x3o (by decide)
    have x4:=BX (okM.mono x3o (by omega))
    have x4o:=x4.okd x3o
    have hr:stT d.toNat s m=TI (HA (stT (d-1).toNat s)) s m:=by rw[hS1];unfold stB;rw[if_neg hn,if_neg h0,if_neg h3,if_neg h4,if_neg h5,if_neg h6,if_neg h7,if_neg h8,if_neg h9,if_neg h11,if_neg h12,if_neg h13,if_neg hdp,if_pos ei,if_neg hel]
    simp only[↓eB,seval,go_sem,eN,e0,e1,e2,e3,e4,e5,e6,e7,e8,e9,e10,e11,e12,e13,hd0,ei,ee]
    try simp only[A2,A3]
    repeat' first|exact ck|with_reducible apply And.intro|intro _
    all_goals first|(refine okM.mono (by assumption) ?_;omega)|exact z0|exact z0.1|exact z3|exact z3.1|exact g0|exact g1|exact g2|(omega)|(simp only[jL3]at *;omega)|(rename_i h;first|exact oI h|exact nah h)|(rename_i _ h _ g;exact sL h g)|decide|omega|(refine A0 [] ?_;simp only[↓eB,seval,go_sem,bne,CN,C5,hr,TI])
  |false=>
   have hif:¬(nxV 2 (nxM (dcM m))==0)=true:=by rw[ei];decide
   have z0:=D2 (j:=2) oK (by decide)
   have x1:=BX (okM.mono oK (by omega))
   have x1o:=x1.okd oK
   have y1:=GK 1 s (nxM (nxM (dcM m)))
   have x2:=He 1 (s:=s) (okM.mono x1o (by omega))
   have x2o:=x2.okd x1o
   have y2:=hBl (Al 1 s (nxM (nxM (dcM m)))).2
   have x3:=hB _ (okM.mono x2o (by omega))
   have x3o:=x3.okd x2o
   have hr:stT d.toNat s m=Nq (HA (stT (d-1).toNat s)) s m:=by rw[hS1];unfold stB;rw[if_neg hn,if_neg h0,if_neg h3,if_neg h4,if_neg h5,if_neg h6,if_neg h7,if_neg h8,if_neg h9,if_neg h11,if_neg h12,if_neg h13,if_neg hdp,if_neg hif]
   simp only[↓eB,seval,go_sem,eN,e0,e1,e2,e3,e4,e5,e6,e7,e8,e9,e10,e11,e12,e13,hd0,ei]
   try simp only[A2,A3]
   repeat' first|exact ck|with_reducible apply And.intro|intro _
   all_goals first|(refine okM.mono (by assumption) ?_;omega)|exact z0|exact z0.1|exact g0|exact g1|exact g2|(omega)|(simp only[jL3]at *;omega)|(rename_i h;first|exact oI h|exact nah h)|(rename_i _ h _ g;exact sL h g)|decide|omega|(refine A0 [] ?_;simp only[↓eB,seval,go_sem,bne,CN,C5,hr,Nq])
theorem RP:∀n:Nat,N2 n
 |0=>by
  rintro ⟨m,s,d,_u⟩ w M I lab fz xs hc hA hl hx
  exact absurd hc.2.2.1 (by have:=hc.2.1;dsimp only at this ⊢;omega)
 |n+1=>gI n (RP n)
end Go.Proofs.Ytjnnmindcbgjhaa
