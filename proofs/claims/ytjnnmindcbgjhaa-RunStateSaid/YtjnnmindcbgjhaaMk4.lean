/- The maker's statements and blocks. No conditions but those in each statement. -/
import Derived.Test.YtjnnmindcbgjhaaMk3
set_option linter.unusedVariables false
set_option linter.unusedSimpArgs false
set_option maxRecDepth 20000
set_option maxHeartbeats 16000000
open List (length_append length_cons length_nil)
namespace Go.Proofs.Ytjnnmindcbgjhaa
open Go Go.Sy Go.RowKit
theorem Qr (w:Int):(nmS w).length≤1:=mP _
def dcM (m:Mk):Mk:={ m with n:=w64i (m.n-1) }
theorem Oy (m:Mk):(⟨m.b,m.i,IntKind.i64.wrap (m.n-1)⟩:Mk)=dcM m:=rfl
theorem kr {m:Mk} {c:Int} (h:okM m c):okM (dcM m) c:=h
theorem Ax.okd {m q:Mk} {c e:Int} (h:Ax m q c) (ho:okM m e):okM q (e-c):=h.ok (by rw[show c+(e-c)=e by omega];exact ho)
theorem A0t (m:Mk):Ax m (dcM m) 0:=⟨Int.le_refl _,by show m.i≤m.i+0;omega,rfl⟩
def Gw (f:Mk→T):Nat→List UInt8→Mk→T
 |0,acc,m=>(acc,m)
 |k+1,acc,m=>Gw f k (acc++(f m).1) (f m).2
def HR (f:Mk→T) (m:Mk):T:=((Gw f (nxV 4 m).toNat [123,32] (nxM m)).1++[125,32],(Gw f (nxV 4 m).toNat [123,32] (nxM m)).2)
def O8 (B:Mk→T) (s:Int) (m:Mk):T:=(((((Ao (nxM (dcM m))).1++[32,61,32])++(AX 2 (Ao (nxM (dcM m))).2).1)++[59,32]),(AX 2 (Ao (nxM (dcM m))).2).2)
def WW (B:Mk→T) (s:Int) (m:Mk):T:=(((((pvT s (nxM (dcM m))).1++[32,61,32,38])++cdT.getD (nxV 2 (pvT s (nxM (dcM m))).2).toNat [])++[59,32]),nxM (pvT s (nxM (dcM m))).2)
def WX (B:Mk→T) (s:Int) (m:Mk):T:=(((((pvT s (nxM (dcM m))).1++[32,61,32])++nqT.getD (nxV 2 (pvT s (nxM (dcM m))).2).toNat [])++[59,32]),nxM (pvT s (nxM (dcM m))).2)
def WY (B:Mk→T) (s:Int) (m:Mk):T:=(((((Ao (nxM (dcM m))).1++[32,61,32,42])++(pvT s (Ao (nxM (dcM m))).2).1)++[59,32]),(pvT s (Ao (nxM (dcM m))).2).2)
def WZ (B:Mk→T) (s:Int) (m:Mk):T:=((((([42]++(pvT s (nxM (dcM m))).1)++[32,61,32])++(AX 1 (pvT s (nxM (dcM m))).2).1)++[59,32]),(AX 1 (pvT s (nxM (dcM m))).2).2)
def Wa (B:Mk→T) (s:Int) (m:Mk):T:=(((((((Ao (nxM (dcM m))).1++[32,61,32])++tuT.getD (nxV 2 (Ao (nxM (dcM m))).2).toNat [])++[91])++(AX 1 (nxM (Ao (nxM (dcM m))).2)).1)++[93,59,32]),(AX 1 (nxM (Ao (nxM (dcM m))).2)).2)
def Wb (B:Mk→T) (s:Int) (m:Mk):T:=((((((tuT.getD (nxV 2 (nxM (dcM m))).toNat []++[91])++(AX 1 (nxM (nxM (dcM m)))).1)++[93,32,61,32])++(AX 1 (AX 1 (nxM (nxM (dcM m)))).2).1)++[59,32]),(AX 1 (AX 1 (nxM (nxM (dcM m)))).2).2)
def Ri (B:Mk→T) (s:Int) (m:Mk):T:=(((((((Ao (nxM (nxM (dcM m)))).1++[32,61,32])++nmS (nxV 4 (nxM (dcM m))))++[40])++(Gt (nxV 4 (nxM (dcM m))) s (Ao (nxM (nxM (dcM m)))).2).1)++[41,59,32]),(Gt (nxV 4 (nxM (dcM m))) s (Ao (nxM (nxM (dcM m)))).2).2)
def TZ (B:Mk→T) (s:Int) (m:Mk):T:=((((nmS (nxV 4 (nxM (dcM m)))++[40])++(Gt (IntKind.i64.wrap (nxV 4 (nxM (dcM m))+IntKind.i64.wrap ((nxV 9 (nxM (nxM (dcM m)))).tdiv 8))) s (nxM (nxM (nxM (dcM m))))).1)++[41,59,32]),(Gt (IntKind.i64.wrap (nxV 4 (nxM (dcM m))+IntKind.i64.wrap ((nxV 9 (nxM (nxM (dcM m)))).tdiv 8))) s (nxM (nxM (nxM (dcM m))))).2)
def Ta (B:Mk→T) (s:Int) (m:Mk):T:=((([114,101,116,117,114,110,32]++(AX 1 (nxM (dcM m))).1)++[59,32]),(AX 1 (nxM (dcM m))).2)
def Tb (B:Mk→T) (s:Int) (m:Mk):T:=((([97,115,115,101,114,116,32,40]++(Am 1 s (nxM (dcM m))).1)++[41,59,32]),(Am 1 s (nxM (dcM m))).2)
def Pw (B:Mk→T) (s:Int) (m:Mk):T:=(((((Ao (nxM (dcM m))).1++[32,61,32])++(AX 1 (Ao (nxM (dcM m))).2).1)++[59,32]),(AX 1 (Ao (nxM (dcM m))).2).2)
def Tc (B:Mk→T) (s:Int) (m:Mk):T:=(((([105,102,32,40]++(Am 1 s (nxM (nxM (dcM m)))).1)++[41,32])++(B (Am 1 s (nxM (nxM (dcM m)))).2).1),nxM (B (Am 1 s (nxM (nxM (dcM m)))).2).2)
def Px (B:Mk→T) (s:Int) (m:Mk):T:=(((((([105,102,32,40]++(Am 1 s (nxM (nxM (dcM m)))).1)++[41,32])++(B (Am 1 s (nxM (nxM (dcM m)))).2).1)++[101,108,115,101,32])++(B (nxM (B (Am 1 s (nxM (nxM (dcM m)))).2).2)).1),(B (nxM (B (Am 1 s (nxM (nxM (dcM m)))).2).2)).2)
def O9 (B:Mk→T) (s:Int) (m:Mk):T:=(((([119,104,105,108,101,32,40]++(Am 1 s (nxM (nxM (dcM m)))).1)++[41,32])++(B (Am 1 s (nxM (nxM (dcM m)))).2).1),(B (Am 1 s (nxM (nxM (dcM m)))).2).2)
def stV (B:Mk→T) (s:Int) (m:Mk):Int:=nxV 2 (B (Am 1 s (nxM (nxM (dcM m)))).2).2
def stB (dp:Bool) (B:Mk→T) (s:Int) (m:Mk):T:=
 if decide ((dcM m).n<0)=true then (([114,101,116,117,114,110,32]++(nuT (dcM m)).1)++[59,32],(nuT (dcM m)).2)
 else if (decide (nxV 18 (dcM m)<3))=true then O8 B s m
 else if (nxV 18 (dcM m)==3)=true then WW B s m
 else if (nxV 18 (dcM m)==4)=true then WX B s m
 else if (nxV 18 (dcM m)==5)=true then WY B s m
 else if (nxV 18 (dcM m)==6)=true then WZ B s m
 else if (nxV 18 (dcM m)==7)=true then Wa B s m
 else if (nxV 18 (dcM m)==8)=true then Wb B s m
 else if (decide (nxV 18 (dcM m)<11))=true then Ri B s m
 else if (nxV 18 (dcM m)==11)=true then TZ B s m
 else if (nxV 18 (dcM m)==12)=true then Ta B s m
 else if (nxV 18 (dcM m)==13)=true then Tb B s m
 else if (!dp)=true then Pw B s m
 else if (nxV 2 (nxM (dcM m))==0)=true then (if (stV B s m==0)=true then Px B s m else Tc B s m)
 else O9 B s m
def stT:Nat→Int→Mk→T
 |0,s,m=>stB false (fun m=>([],m)) s m
 |k+1,s,m=>stB true (HR (stT k s)) s m
def bc (c:Int):Nat→Int
 |0=>0
 |k+1=>c+bc c k
def bn (c:Nat):Nat→Nat
 |0=>0
 |k+1=>c+bn c k
theorem Td {c:Int} (h:0≤c):∀k,0≤bc c k
 |0=>Int.le_refl _
 |k+1=>by have:=Td h k;simp only[bc];omega
theorem ku {c:Int} (h:0≤c):∀k,k≤3→bc c k≤3*c
 |0,_=>by simp only[bc];omega
 |1,_=>by simp only[bc];omega
 |2,_=>by simp only[bc];omega
 |3,_=>by simp only[bc];omega
theorem kv {c:Nat}:∀k,k≤3→bn c k≤3*c
 |0,_=>by simp only[bn];omega
 |1,_=>by simp only[bn];omega
 |2,_=>by simp only[bn];omega
 |3,_=>by simp only[bn];omega
theorem kw {f:Mk→T} {c:Int} (h0:0≤c) (hf:∀q,okM q c→Ax q (f q).2 c):∀(k:Nat) (acc:List UInt8) (q:Mk),okM q (bc c k)→Ax q (Gw f k acc q).2 (bc c k)
 |0,acc,q,h=>Ax.refl q
 |k+1,acc,q,h=>by
  have h1:=Td h0 k
  simp only[bc]at h ⊢
  have a1:=hf q (h.mono (by omega))
  exact a1.trans (kw h0 hf k _ _ (a1.ok h))
theorem X6 {f:Mk→T} {c:Nat} (hf:∀q,(f q).1.length≤c):∀(k:Nat) (acc:List UInt8) (q:Mk),(Gw f k acc q).1.length≤acc.length+bn c k
 |0,acc,q=>Nat.le_refl _
 |k+1,acc,q=>by
  have h1:=hf q
  have h2:=X6 hf k (acc++(f q).1) (f q).2
  simp only[Gw,bn,length_append]at h2 ⊢
  omega
theorem co {f:Mk→T} {c:Int} (h0:0≤c) (hf:∀q,okM q c→Ax q (f q).2 c) (m:Mk) (h:okM m (1+3*c)):Ax m (HR f m).2 (1+3*c):=by
 have a1:=Ba (h.mono (by omega))
 have o1:okM (nxM m) (3*c):=a1.ok h
 have hv:=D2 (j:=4) h (by decide)
 have hb:=ku h0 (nxV 4 m).toNat (by omega)
 exact(a1.trans (kw h0 hf (nxV 4 m).toNat [123,32] (nxM m) (o1.mono hb))).mono (by omega)
theorem Z8 {f:Mk→T} {c:Nat} (hf:∀q,(f q).1.length≤c) (m:Mk):(HR f m).1.length≤4+3*c:=by
 have hv:nxV 4 m<4:=Int.tmod_lt_of_pos _ (by decide)
 have hb:=kv (c:=c) (nxV 4 m).toNat (by omega)
 have h1:=X6 hf (nxV 4 m).toNat [123,32] (nxM m)
 simp only[HR,jL3]at h1 ⊢
 omega
theorem cq {dp:Bool} {B:Mk→T} {K:Int} (hK:0≤K) (hB:∀q,okM q K→Ax q (B q).2 K) {s:Int} {m:Mk} (o0:okM m (60+2*K)):Ax m (stB dp B s m).2 (60+2*K):=by
 have a0:=A0t m
 have oK0:okM (dcM m) (60+2*K):=kr o0
 have a1:=a0.trans (Ba (oK0.mono (by omega)))
 have oK:okM (nxM (dcM m)) (59+2*K):=a1.ok (o0.mono (by omega))
 have o1:okM (nxM (dcM m)) 59:=oK.mono (by omega)
 unfold stB
 by_cases hn:decide ((dcM m).n<0)=true
 ·rw[if_pos hn]
  exact(a0.trans (ah (oK0.mono (by omega)))).mono (by omega)
 rw[if_neg hn]
 by_cases h0:(decide (nxV 18 (dcM m)<3))=true
 ·rw[if_pos h0]
  have x1:=Em (okM.mono o1 (by omega))
  have x1o:=x1.okd o1
  have x2:=DN 2 (okM.mono x1o (by omega))
  have x2o:=x2.okd x1o
  show Ax m (AX 2 (Ao (nxM (dcM m))).2).2 _
  exact((a1.trans x1).trans x2).mono (by omega)
 rw[if_neg h0]
 by_cases h3:(nxV 18 (dcM m)==3)=true
 ·rw[if_pos h3]
  have x1:=JA (s:=s) (okM.mono o1 (by omega))
  have x1o:=x1.okd o1
  have x2:=Ba (okM.mono x1o (by omega))
  have x2o:=x2.okd x1o
  show Ax m (nxM (pvT s (nxM (dcM m))).2) _
  exact((a1.trans x1).trans x2).mono (by omega)
 rw[if_neg h3]
 by_cases h4:(nxV 18 (dcM m)==4)=true
 ·rw[if_pos h4]
  have x1:=JA (s:=s) (okM.mono o1 (by omega))
  have x1o:=x1.okd o1
  have x2:=Ba (okM.mono x1o (by omega))
  have x2o:=x2.okd x1o
  show Ax m (nxM (pvT s (nxM (dcM m))).2) _
  exact((a1.trans x1).trans x2).mono (by omega)
 rw[if_neg h4]
 by_cases h5:(nxV 18 (dcM m)==5)=true
 ·rw[if_pos h5]
  have x1:=Em (okM.mono o1 (by omega))
  have x1o:=x1.okd o1
  have x2:=JA (s:=s) (okM.mono x1o (by omega))
  have x2o:=x2.okd x1o
  show Ax m (pvT s (Ao (nxM (dcM m))).2).2 _
  exact((a1.trans x1).trans x2).mono (by omega)
 rw[if_neg h5]
 by_cases h6:(nxV 18 (dcM m)==6)=true
 ·rw[if_pos h6]
  have x1:=JA (s:=s) (okM.mono o1 (by omega))
  have x1o:=x1.okd o1
  have x2:=DN 1 (okM.mono x1o (by omega))
  have x2o:=x2.okd x1o
  show Ax m (AX 1 (pvT s (nxM (dcM m))).2).2 _
  exact((a1.trans x1).trans x2).mono (by omega)
 rw[if_neg h6]
 by_cases h7:(nxV 18 (dcM m)==7)=true
 ·rw[if_pos h7]
  have x1:=Em (okM.mono o1 (by omega))
  have x1o:=x1.okd o1
  have x2:=Ba (okM.mono x1o (by omega))
  have x2o:=x2.okd x1o
  have x3:=DN 1 (okM.mono x2o (by omega))
  have x3o:=x3.okd x2o
  show Ax m (AX 1 (nxM (Ao (nxM (dcM m))).2)).2 _
  exact(((a1.trans x1).trans x2).trans x3).mono (by omega)
 rw[if_neg h7]
 by_cases h8:(nxV 18 (dcM m)==8)=true
 ·rw[if_pos h8]
  have x1:=Ba (okM.mono o1 (by omega))
  have x1o:=x1.okd o1
  have x2:=DN 1 (okM.mono x1o (by omega))
  have x2o:=x2.okd x1o
  have x3:=DN 1 (okM.mono x2o (by omega))
  have x3o:=x3.okd x2o
  show Ax m (AX 1 (AX 1 (nxM (nxM (dcM m)))).2).2 _
  exact(((a1.trans x1).trans x2).trans x3).mono (by omega)
 rw[if_neg h8]
 by_cases h9:(decide (nxV 18 (dcM m)<11))=true
 ·rw[if_pos h9]
  have x1:=Ba (okM.mono o1 (by omega))
  have x1o:=x1.okd o1
  have x2:=Em (okM.mono x1o (by omega))
  have x2o:=x2.okd x1o
  have x3:=Qq (t:=nxV 4 (nxM (dcM m))) (s:=s) (okM.mono x2o (by omega))
  have x3o:=x3.okd x2o
  show Ax m (Gt (nxV 4 (nxM (dcM m))) s (Ao (nxM (nxM (dcM m)))).2).2 _
  exact(((a1.trans x1).trans x2).trans x3).mono (by omega)
 rw[if_neg h9]
 by_cases h11:(nxV 18 (dcM m)==11)=true
 ·rw[if_pos h11]
  have x1:=Ba (okM.mono o1 (by omega))
  have x1o:=x1.okd o1
  have x2:=Ba (okM.mono x1o (by omega))
  have x2o:=x2.okd x1o
  have x3:=Qq (t:=IntKind.i64.wrap (nxV 4 (nxM (dcM m))+IntKind.i64.wrap ((nxV 9 (nxM (nxM (dcM m)))).tdiv 8))) (s:=s) (okM.mono x2o (by omega))
  have x3o:=x3.okd x2o
  show Ax m (Gt (IntKind.i64.wrap (nxV 4 (nxM (dcM m))+IntKind.i64.wrap ((nxV 9 (nxM (nxM (dcM m)))).tdiv 8))) s (nxM (nxM (nxM (dcM m))))).2 _
  exact(((a1.trans x1).trans x2).trans x3).mono (by omega)
 rw[if_neg h11]
 by_cases h12:(nxV 18 (dcM m)==12)=true
 ·rw[if_pos h12]
  have x1:=DN 1 (okM.mono o1 (by omega))
  have x1o:=x1.okd o1
  show Ax m (AX 1 (nxM (dcM m))).2 _
  exact(a1.trans x1).mono (by omega)
 rw[if_neg h12]
 by_cases h13:(nxV 18 (dcM m)==13)=true
 ·rw[if_pos h13]
  have x1:=Hw 1 (s:=s) (okM.mono o1 (by omega))
  have x1o:=x1.okd o1
  show Ax m (Am 1 s (nxM (dcM m))).2 _
  exact(a1.trans x1).mono (by omega)
 rw[if_neg h13]
 by_cases hbase:(!dp)=true
 ·rw[if_pos hbase]
  have x1:=Em (okM.mono o1 (by omega))
  have x1o:=x1.okd o1
  have x2:=DN 1 (okM.mono x1o (by omega))
  have x2o:=x2.okd x1o
  show Ax m (AX 1 (Ao (nxM (dcM m))).2).2 _
  exact((a1.trans x1).trans x2).mono (by omega)
 rw[if_neg hbase]
 by_cases hif:(nxV 2 (nxM (dcM m))==0)=true
 ·rw[if_pos hif]
  by_cases hel:(stV B s m==0)=true
  ·rw[if_pos hel]
   have x1:=Ba (okM.mono oK (by omega))
   have x1o:=x1.okd oK
   have x2:=Hw 1 (s:=s) (okM.mono x1o (by omega))
   have x2o:=x2.okd x1o
   have x3:=hB _ (okM.mono x2o (by omega))
   have x3o:=x3.okd x2o
   have x4:=Ba (okM.mono x3o (by omega))
   have x4o:=x4.okd x3o
   have x5:=hB _ (okM.mono x4o (by omega))
   have x5o:=x5.okd x4o
   show Ax m (B (nxM (B (Am 1 s (nxM (nxM (dcM m)))).2).2)).2 _
   exact(((((a1.trans x1).trans x2).trans x3).trans x4).trans x5).mono (by omega)
  ·rw[if_neg hel]
   have x1:=Ba (okM.mono oK (by omega))
   have x1o:=x1.okd oK
   have x2:=Hw 1 (s:=s) (okM.mono x1o (by omega))
   have x2o:=x2.okd x1o
   have x3:=hB _ (okM.mono x2o (by omega))
   have x3o:=x3.okd x2o
   have x4:=Ba (okM.mono x3o (by omega))
   have x4o:=x4.okd x3o
   show Ax m (nxM (B (Am 1 s (nxM (nxM (dcM m)))).2).2) _
   exact((((a1.trans x1).trans x2).trans x3).trans x4).mono (by omega)
 ·rw[if_neg hif]
  have x1:=Ba (okM.mono oK (by omega))
  have x1o:=x1.okd oK
  have x2:=Hw 1 (s:=s) (okM.mono x1o (by omega))
  have x2o:=x2.okd x1o
  have x3:=hB _ (okM.mono x2o (by omega))
  have x3o:=x3.okd x2o
  show Ax m (B (Am 1 s (nxM (nxM (dcM m)))).2).2 _
  exact(((a1.trans x1).trans x2).trans x3).mono (by omega)
theorem Z9 {dp:Bool} {B:Mk→T} {L:Nat} (hBl:∀q,(B q).1.length≤L) (s:Int) (m:Mk):(stB dp B s m).1.length≤400+2*L:=by
 unfold stB
 by_cases hn:decide ((dcM m).n<0)=true
 ·rw[if_pos hn]
  have h1:=TX (dcM m)
  simp only[jL3]
  omega
 rw[if_neg hn]
 by_cases h0:(decide (nxV 18 (dcM m)<3))=true
 ·rw[if_pos h0]
  have y0:=Cu (nxM (dcM m))
  have y1:=CV 2 (Ao (nxM (dcM m))).2
  simp only[O8,jL3]
  omega
 rw[if_neg h0]
 by_cases h3:(nxV 18 (dcM m)==3)=true
 ·rw[if_pos h3]
  have y0:=GB s (nxM (dcM m))
  have y1:=Z2 (nxV 2 (pvT s (nxM (dcM m))).2).toNat
  simp only[WW,jL3]
  omega
 rw[if_neg h3]
 by_cases h4:(nxV 18 (dcM m)==4)=true
 ·rw[if_pos h4]
  have y0:=GB s (nxM (dcM m))
  have y1:=Z3 (nxV 2 (pvT s (nxM (dcM m))).2).toNat
  simp only[WX,jL3]
  omega
 rw[if_neg h4]
 by_cases h5:(nxV 18 (dcM m)==5)=true
 ·rw[if_pos h5]
  have y0:=Cu (nxM (dcM m))
  have y1:=GB s (Ao (nxM (dcM m))).2
  simp only[WY,jL3]
  omega
 rw[if_neg h5]
 by_cases h6:(nxV 18 (dcM m)==6)=true
 ·rw[if_pos h6]
  have y0:=GB s (nxM (dcM m))
  have y1:=CV 1 (pvT s (nxM (dcM m))).2
  simp only[WZ,jL3]
  omega
 rw[if_neg h6]
 by_cases h7:(nxV 18 (dcM m)==7)=true
 ·rw[if_pos h7]
  have y0:=Cu (nxM (dcM m))
  have y1:=Rf (nxV 2 (Ao (nxM (dcM m))).2).toNat
  have y2:=CV 1 (nxM (Ao (nxM (dcM m))).2)
  simp only[Wa,jL3]
  omega
 rw[if_neg h7]
 by_cases h8:(nxV 18 (dcM m)==8)=true
 ·rw[if_pos h8]
  have y0:=Rf (nxV 2 (nxM (dcM m))).toNat
  have y1:=CV 1 (nxM (nxM (dcM m)))
  have y2:=CV 1 (AX 1 (nxM (nxM (dcM m)))).2
  simp only[Wb,jL3]
  omega
 rw[if_neg h8]
 by_cases h9:(decide (nxV 18 (dcM m)<11))=true
 ·rw[if_pos h9]
  have y1:=Cu (nxM (nxM (dcM m)))
  have y2n:=Qr (nxV 4 (nxM (dcM m)))
  have y2:=Ow (nxV 4 (nxM (dcM m))) s (Ao (nxM (nxM (dcM m)))).2
  simp only[Ri,jL3]
  omega
 rw[if_neg h9]
 by_cases h11:(nxV 18 (dcM m)==11)=true
 ·rw[if_pos h11]
  have y1n:=Qr (nxV 4 (nxM (dcM m)))
  have y2:=Ow (IntKind.i64.wrap (nxV 4 (nxM (dcM m))+IntKind.i64.wrap ((nxV 9 (nxM (nxM (dcM m)))).tdiv 8))) s (nxM (nxM (nxM (dcM m))))
  simp only[TZ,jL3]
  omega
 rw[if_neg h11]
 by_cases h12:(nxV 18 (dcM m)==12)=true
 ·rw[if_pos h12]
  have y0:=CV 1 (nxM (dcM m))
  simp only[Ta,jL3]
  omega
 rw[if_neg h12]
 by_cases h13:(nxV 18 (dcM m)==13)=true
 ·rw[if_pos h13]
  have y0:=GX 1 s (nxM (dcM m))
  simp only[Tb,jL3]
  omega
 rw[if_neg h13]
 by_cases hbase:(!dp)=true
 ·rw[if_pos hbase]
  have y0:=Cu (nxM (dcM m))
  have y1:=CV 1 (Ao (nxM (dcM m))).2
  simp only[Pw,jL3]
  omega
 rw[if_neg hbase]
 by_cases hif:(nxV 2 (nxM (dcM m))==0)=true
 ·rw[if_pos hif]
  by_cases hel:(stV B s m==0)=true
  ·rw[if_pos hel]
   have y1:=GX 1 s (nxM (nxM (dcM m)))
   have y2:=hBl (Am 1 s (nxM (nxM (dcM m)))).2
   have y4:=hBl (nxM (B (Am 1 s (nxM (nxM (dcM m)))).2).2)
   simp only[Px,jL3]
   omega
  ·rw[if_neg hel]
   have y1:=GX 1 s (nxM (nxM (dcM m)))
   have y2:=hBl (Am 1 s (nxM (nxM (dcM m)))).2
   simp only[Tc,jL3]
   omega
 ·rw[if_neg hif]
  have y1:=GX 1 s (nxM (nxM (dcM m)))
  have y2:=hBl (Am 1 s (nxM (nxM (dcM m)))).2
  simp only[O9,jL3]
  omega
def stC:Nat→Int
 |0=>60
 |k+1=>60+2*(1+3*stC k)
def stL:Nat→Nat
 |0=>400
 |k+1=>400+2*(4+3*stL k)
theorem Qs:∀k,60≤stC k
 |0=>Int.le_refl _
 |k+1=>by have:=Qs k;simp only[stC];omega
theorem Te:∀k,k≤3→stL k≤200000
 |0,_=>by decide
 |1,_=>by decide
 |2,_=>by decide
 |3,_=>by decide
theorem Tf:∀(k:Nat) {s:Int} {m:Mk},okM m (stC k)→Ax m (stT k s m).2 (stC k)
 |0,s,m,h=>(cq (K:=0) (Int.le_refl _) (fun q _=>Ax.refl q) (h.mono (by decide))).mono (by decide)
 |k+1,s,m,h=>by
  have h1:=Qs k
  simp only[stC]at h ⊢
  exact cq (K:=1+3*stC k) (by omega) (fun q hq=>co (by omega) (fun r hr=>Tf k hr) q hq) h
theorem Oz:∀(k:Nat) (s:Int) (m:Mk),(stT k s m).1.length≤stL k
 |0,s,m=>Z9 (L:=0) (fun q=>Nat.le_refl _) s m
 |k+1,s,m=>Z9 (L:=4+3*stL k) (fun q=>Z8 (fun r=>Oz k s r) q) s m
abbrev NJ (n:Nat) (m:Mk) (s:Int) (d:Int):Prop:=okM m (stC d.toNat)∧0≤d∧d<(n:Int)∧d≤3
abbrev CO (n:Nat) (m:Mk) (s:Int) (d:Int):SV:=.one (.v (.string (bs (stT d.toNat s m).1)))
abbrev C8 (n:Nat) (m:Mk) (s:Int) (d:Int):List (Option MV):=[some (zMk,[(stT d.toNat s m).2.c])]
noncomputable abbrev Js:ArgM ((Mk)×(Int)×(Int)×Unit):=(amP (mMk) (amD (cInt .i64) (amD (cInt .i64) am0)))
abbrev NK (n:Nat):Prop:=Bt Try.prog 69 ((Js).args 0) (Js).mem (fun p:(Mk)×(Int)×(Int)×Unit=>NJ n p.1 p.2.1 p.2.2.1) (fun p:(Mk)×(Int)×(Int)×Unit=>CO n p.1 p.2.1 p.2.2.1) (fun p:(Mk)×(Int)×(Int)×Unit=>C8 n p.1 p.2.1 p.2.2.1)
theorem gT (n:Nat):∀p,(fun p:(Mk)×(Int)×(Int)×Unit=>NJ n p.1 p.2.1 p.2.2.1) p→Cn ((Js).mem p).length ((fun p:(Mk)×(Int)×(Int)×Unit=>C8 n p.1 p.2.1 p.2.2.1) p)=true:=by intro p _;rfl
theorem gU (n:Nat):∀p,(fun p:(Mk)×(Int)×(Int)×Unit=>NJ n p.1 p.2.1 p.2.2.1) p→Av ((fun p:(Mk)×(Int)×(Int)×Unit=>C8 n p.1 p.2.1 p.2.2.1) p).length ((fun p:(Mk)×(Int)×(Int)×Unit=>CO n p.1 p.2.1 p.2.2.1) p)=true:=by intro p _;first|rfl|exact AO _ _|exact AP _ _|(simp[Av,C0,AO,AP];done)
theorem gV (n:Nat):∀p,(fun p:(Mk)×(Int)×(Int)×Unit=>NJ n p.1 p.2.1 p.2.2.1) p→∀q,some q∈(fun p:(Mk)×(Int)×(Int)×Unit=>C8 n p.1 p.2.1 p.2.2.1) p→∀r∈q.2,∀c∈r,c.names=[]:=by intro p _;exact KQ _
noncomputable def Db {X:Ctx} {w0:World} (n:Nat) (h:NK n):Sy.Spec Try.prog X w0:=Ca 69 Try.call69 (Js) (fun p:(Mk)×(Int)×(Int)×Unit=>NJ n p.1 p.2.1 p.2.2.1) (fun p:(Mk)×(Int)×(Int)×Unit=>CO n p.1 p.2.1 p.2.2.1) (fun p:(Mk)×(Int)×(Int)×Unit=>C8 n p.1 p.2.1 p.2.2.1) (gT n) (gU n) (gV n) h
abbrev M4 (n:Nat) (m:Mk) (s:Int) (d:Int):Prop:=okM m (1+3*stC (d-1).toNat)∧1≤d∧d-1<(n:Int)∧d≤3
abbrev M5 (n:Nat) (m:Mk) (s:Int) (d:Int):SV:=.one (.v (.string (bs (HR (stT (d-1).toNat s) m).1)))
abbrev Ii (n:Nat) (m:Mk) (s:Int) (d:Int):List (Option MV):=[some (zMk,[(HR (stT (d-1).toNat s) m).2.c])]
noncomputable abbrev Ij:ArgM ((Mk)×(Int)×(Int)×Unit):=(amP (mMk) (amD (cInt .i64) (amD (cInt .i64) am0)))
abbrev Vt (n:Nat):Prop:=Bt Try.prog 84 ((Ij).args 0) (Ij).mem (fun p:(Mk)×(Int)×(Int)×Unit=>M4 n p.1 p.2.1 p.2.2.1) (fun p:(Mk)×(Int)×(Int)×Unit=>M5 n p.1 p.2.1 p.2.2.1) (fun p:(Mk)×(Int)×(Int)×Unit=>Ii n p.1 p.2.1 p.2.2.1)
theorem cr (n:Nat):∀p,(fun p:(Mk)×(Int)×(Int)×Unit=>M4 n p.1 p.2.1 p.2.2.1) p→Cn ((Ij).mem p).length ((fun p:(Mk)×(Int)×(Int)×Unit=>Ii n p.1 p.2.1 p.2.2.1) p)=true:=by intro p _;rfl
theorem ct (n:Nat):∀p,(fun p:(Mk)×(Int)×(Int)×Unit=>M4 n p.1 p.2.1 p.2.2.1) p→Av ((fun p:(Mk)×(Int)×(Int)×Unit=>Ii n p.1 p.2.1 p.2.2.1) p).length ((fun p:(Mk)×(Int)×(Int)×Unit=>M5 n p.1 p.2.1 p.2.2.1) p)=true:=by intro p _;first|rfl|exact AO _ _|exact AP _ _|(simp[Av,C0,AO,AP];done)
theorem cu (n:Nat):∀p,(fun p:(Mk)×(Int)×(Int)×Unit=>M4 n p.1 p.2.1 p.2.2.1) p→∀q,some q∈(fun p:(Mk)×(Int)×(Int)×Unit=>Ii n p.1 p.2.1 p.2.2.1) p→∀r∈q.2,∀c∈r,c.names=[]:=by intro p _;exact KQ _
noncomputable def Vu {X:Ctx} {w0:World} (n:Nat) (h:Vt n):Sy.Spec Try.prog X w0:=Ca 84 Try.call84 (Ij) (fun p:(Mk)×(Int)×(Int)×Unit=>M4 n p.1 p.2.1 p.2.2.1) (fun p:(Mk)×(Int)×(Int)×Unit=>M5 n p.1 p.2.1 p.2.2.1) (fun p:(Mk)×(Int)×(Int)×Unit=>Ii n p.1 p.2.1 p.2.2.1) (cr n) (ct n) (cu n) h
attribute [local go_sem] Mk.c zBy
theorem gW (n:Nat) (hu:NK n):Vt n:=by
 rintro ⟨m,s,d,_u⟩ w M I lab fz xs hc hA hl hx
 refine An Try.func84 rfl ((Ij).mem ⟨m,s,d,_u⟩) w M I lab fz [Bl,(Db n hu)] [] ((Ij).args 0 ⟨m,s,d,_u⟩) ((fun p:(Mk)×(Int)×(Int)×Unit=>Ii n p.1 p.2.1 p.2.2.1) ⟨m,s,d,_u⟩) ((fun p:(Mk)×(Int)×(Int)×Unit=>M5 n p.1 p.2.1 p.2.2.1) ⟨m,s,d,_u⟩) xs hA hl hx (fun v hv k hk=>by have:=(Ij).an 0 ⟨m,s,d,_u⟩ v hv k hk;omega) (jN rfl) (jN rfl) ?_
 clear hx hl hA xs
 simp only[Try.f84]
 obtain⟨o0,g0,g1,g2⟩:=hc
 dsimp only at o0 g0 g1 g2
 obtain⟨d',hd'⟩:∃d':Int,d'=d-1:=⟨_,rfl⟩
 have hdw:IntKind.i64.wrap (d-1)=d':=by rw[hd'];exact wrap_i64 (by omega) (by omega)
 obtain⟨k,hk⟩:∃k:Nat,(d-1).toNat=k:=⟨_,rfl⟩
 have hk':d'.toNat=k:=by rw[hd'];exact hk
 rw[hk]at o0
 have p0:0≤d':=by omega
 have p1:d'<(n:Int):=by omega
 have p2:d'≤3:=by omega
 have hk3:k≤3:=by omega
 have c0:=Qs k
 have hL:=Te k hk3
 have a1:=Ba (okM.mono o0 (by omega))
 have o1:okM (nxM m) (3*stC k):=a1.ok o0
 have hv:=D2 (j:=4) o0 (by decide)
 obtain⟨c,hc⟩:∃c:Nat,nxV 4 m=(c:Int):=⟨_,(Int.toNat_of_nonneg hv.1).symm⟩
 have hc3:c≤3:=by omega
 have hct:(nxV 4 m).toNat=c:=by omega
 have hr:HR (stT k s) m=((Gw (stT k s) c [123,32] (nxM m)).1++[125,32],(Gw (stT k s) c [123,32] (nxM m)).2):=by unfold HR;rw[hct]
 simp only[↓eB,seval,go_sem,Bl,KR,D5,Hv,Gs,Jr,NH,Fi,Db,Ek,Ej,El,Dg,Oy,DF,Dw,Dx,Dy,Dz,E0,E1,E2,E3,E4,tn0,tn1,tn2,hc]
 refine⟨⟨okM.mono o0 (by omega),by decide⟩,?_⟩
 refine AU (Y:=Nat×List UInt8×Mk) (fun y=>y.1≤3∧okM y.2.2 (bc (stC k) y.1)∧y.2.1.length+bn (stL k) y.1≤3*stL k+2∧Gw (stT k s) y.1 y.2.1 y.2.2=Gw (stT k s) c [123,32] (nxM m))
  (fun y=>⟨[(0,true,.one (.p 0 0 0)),(1,true,.one (.v (.int .i64 s))),(2,true,.one (.v (.int .i64 d))),(7,true,.one (.v (.string (bs y.2.1)))),(8,true,.one (.v (.int .i64 (y.1:Int))))],[(0,.vec 0 zMk [y.2.2.c])]⟩)
  (fun y=>y.1) (c,[123,32],nxM m) ⟨hc3,okM.mono o1 (ku (by omega) c hc3),by have:=kv (c:=stL k) c hc3;simp only[length_cons,length_nil];omega,rfl⟩ ?_ ?_
 ·refine A2 [] ?_;simp only[↓eB,seval,go_sem]
 ·rintro ⟨j,acc,q⟩ ⟨h1,h2,h3,h4⟩
  refine Ak [Bl,Db n hu] [] _ _ _ ?_
  dsimp only at h1 h2 h3 h4
  cases j with
  |zero=>
   simp only[Gw]at h4
   rw[← h4]at hr
   have e0:decide ((0:Int)<((0:Nat):Int))=false:=rfl
   simp only[↓eB,seval,go_sem,Bl,KR,D5,Hv,Gs,Jr,NH,Fi,Db,Ek,Ej,El,Dg,Oy,DF,Dw,Dx,Dy,Dz,E0,E1,E2,E3,E4,tn0,tn1,tn2,e0]
   try simp only[A3,A4]
   repeat' first|exact ck|with_reducible apply And.intro|intro _
   all_goals first|(simp only[bn,length_cons,length_nil]at *;omega)|(rename_i h;first|exact oI h|exact nah h)|(rename_i _ h _ g;exact sL h g)|decide|omega|(refine A0 [] ?_;simp only[↓eB,seval,go_sem,bne,M5,Ii,hk,hr,Ek,Ej,El,Dg,Oy,DF,Dw,Dx,Dy,Dz,E0,E1,E2,E3,E4,tn0,tn1,tn2])
  |succ j=>
   simp only[Gw,bc,bn]at h2 h3 h4
   have e0:decide ((0:Int)<((j+1:Nat):Int))=true:=decide_eq_true (by omega)
   have e1:IntKind.i64.wrap (((j+1:Nat):Int)-1)=(j:Int):=by rw[wrap_i64 (by omega) (by omega)];omega
   have hb0:=Td (c:=stC k) (by omega) j
   have oq:okM q (stC k):=okM.mono h2 (by omega)
   have a2:=Tf k (s:=s) oq
   have l2:=Oz k s q
   simp only[↓eB,seval,go_sem,Bl,KR,D5,Hv,Gs,Jr,NH,Fi,Db,Ek,Ej,El,Dg,Oy,DF,Dw,Dx,Dy,Dz,E0,E1,E2,E3,E4,tn0,tn1,tn2,e0,e1,hdw,hk']
   try simp only[A3,A4]
   repeat' first|exact ck|with_reducible apply And.intro|intro _
   all_goals try first|(rw[hk'];exact oq)|exact oq|exact p0|exact p1|exact p2|(omega)|(rename_i h;first|exact oI h|exact nah h)|(rename_i _ h _ g;exact sL h g)|decide|omega
   refine⟨(j,acc++(stT k s q).1,(stT k s q).2),⟨by omega,a2.ok h2,by simp only[length_append];omega,h4⟩,Nat.lt_succ_self _,A2 [] ?_⟩
   simp only[↓eB,seval,go_sem]
attribute[local go_sem] Dz Dy Oy E2 E3 Dw El Ek Ej Dg E4 E0 DF Dx tn0 tn1 tn2 E1 Vu Jr Gs Fi D5 NH Bl KR Hv in
theorem gX (n:Nat) (hu:NK n):NK (n+1):=by
 rintro ⟨m,s,d,_u⟩ w M I lab fz xs hc hA hl hx
 refine An Try.func69 rfl ((Js).mem ⟨m,s,d,_u⟩) w M I lab fz [Bl,KR,D5,Hv,(Gs 3 (TY 3)),(Jr 2 (Z7 2)),NH,Fi,(Vu n (gW n hu))] [] ((Js).args 0 ⟨m,s,d,_u⟩) ((fun p:(Mk)×(Int)×(Int)×Unit=>C8 (n+1) p.1 p.2.1 p.2.2.1) ⟨m,s,d,_u⟩) ((fun p:(Mk)×(Int)×(Int)×Unit=>CO (n+1) p.1 p.2.1 p.2.2.1) ⟨m,s,d,_u⟩) xs hA hl hx (fun v hv k hk=>by have:=(Js).an 0 ⟨m,s,d,_u⟩ v hv k hk;omega) (jN rfl) (jN rfl) ?_
 clear hx hl hA xs
 simp only[Try.f69]
 obtain⟨oS,g0,g1,g2⟩:=hc
 dsimp only at oS g0 g1 g2
 have c9:=Qs d.toNat
 have oD:okM (dcM m) (stC d.toNat):=kr oS
 obtain⟨dp,B,hS⟩:∃dp B,stT d.toNat s m=stB dp B s m:=by cases d.toNat<;>exact⟨_,_,rfl⟩
 have e90:=Oy m
 cases eN:decide (IntKind.i64.wrap (m.n-1)<0) with
 |true=>
  have hn:decide ((dcM m).n<0)=true:=eN
  have y0:=TX (dcM m)
  have hr:stT d.toNat s m=(([114,101,116,117,114,110,32]++(nuT (dcM m)).1)++[59,32],(nuT (dcM m)).2):=by rw[hS];unfold stB;rw[if_pos hn]
  simp only[↓eB,seval,go_sem,eN]
  try simp only[A3,A4]
  repeat' first|exact ck|with_reducible apply And.intro|intro _
  all_goals first|exact okM.mono oD (by omega)|(simp only[jL3]at *;omega)|(rename_i h;first|exact oI h|exact nah h)|(rename_i _ h _ g;exact sL h g)|decide|omega|(refine A0 [] ?_;simp only[↓eB,seval,go_sem,bne,CO,C8,hr])
 |false=>
 have hn:¬decide ((dcM m).n<0)=true:=by rw[show decide ((dcM m).n<0)=false from eN];decide
 have a1:=Ba (okM.mono oD (by omega))
 have o1:okM (nxM (dcM m)) 59:=a1.ok (okM.mono oD (by omega))
 have hv:=D2 (j:=18) oD (by decide)
 cases e0:(nxV 18 (dcM m)==0) with
 |true=>
  have y0:=Cu (nxM (dcM m))
  have x1:=Em (okM.mono o1 (by omega))
  have x1o:=x1.okd o1
  have y1:=CV 2 (Ao (nxM (dcM m))).2
  have x2:=DN 2 (okM.mono x1o (by omega))
  have x2o:=x2.okd x1o
  have h0:(decide (nxV 18 (dcM m)<3))=true:=decide_eq_true (by have:=eq_of_beq e0;omega)
  have hr:stT d.toNat s m=O8 B s m:=by rw[hS];unfold stB;rw[if_neg hn,if_pos h0]
  simp only[↓eB,seval,go_sem,eN,e0]
  try simp only[A3,A4]
  repeat' first|exact ck|with_reducible apply And.intro|intro _
  all_goals first|(refine okM.mono (by assumption) ?_;omega)|exact g0|exact g1|exact g2|(omega)|(simp only[jL3]at *;omega)|(rename_i h;first|exact oI h|exact nah h)|(rename_i _ h _ g;exact sL h g)|decide|omega|(refine A0 [] ?_;simp only[↓eB,seval,go_sem,bne,CO,C8,hr,O8])
 |false=>
 cases e1:(nxV 18 (dcM m)==1) with
 |true=>
  have y0:=Cu (nxM (dcM m))
  have x1:=Em (okM.mono o1 (by omega))
  have x1o:=x1.okd o1
  have y1:=CV 2 (Ao (nxM (dcM m))).2
  have x2:=DN 2 (okM.mono x1o (by omega))
  have x2o:=x2.okd x1o
  have h0:(decide (nxV 18 (dcM m)<3))=true:=decide_eq_true (by have:=eq_of_beq e1;omega)
  have hr:stT d.toNat s m=O8 B s m:=by rw[hS];unfold stB;rw[if_neg hn,if_pos h0]
  simp only[↓eB,seval,go_sem,eN,e0,e1]
  try simp only[A3,A4]
  repeat' first|exact ck|with_reducible apply And.intro|intro _
  all_goals first|(refine okM.mono (by assumption) ?_;omega)|exact g0|exact g1|exact g2|(omega)|(simp only[jL3]at *;omega)|(rename_i h;first|exact oI h|exact nah h)|(rename_i _ h _ g;exact sL h g)|decide|omega|(refine A0 [] ?_;simp only[↓eB,seval,go_sem,bne,CO,C8,hr,O8])
 |false=>
 cases e2:(nxV 18 (dcM m)==2) with
 |true=>
  have y0:=Cu (nxM (dcM m))
  have x1:=Em (okM.mono o1 (by omega))
  have x1o:=x1.okd o1
  have y1:=CV 2 (Ao (nxM (dcM m))).2
  have x2:=DN 2 (okM.mono x1o (by omega))
  have x2o:=x2.okd x1o
  have h0:(decide (nxV 18 (dcM m)<3))=true:=decide_eq_true (by have:=eq_of_beq e2;omega)
  have hr:stT d.toNat s m=O8 B s m:=by rw[hS];unfold stB;rw[if_neg hn,if_pos h0]
  simp only[↓eB,seval,go_sem,eN,e0,e1,e2]
  try simp only[A3,A4]
  repeat' first|exact ck|with_reducible apply And.intro|intro _
  all_goals first|(refine okM.mono (by assumption) ?_;omega)|exact g0|exact g1|exact g2|(omega)|(simp only[jL3]at *;omega)|(rename_i h;first|exact oI h|exact nah h)|(rename_i _ h _ g;exact sL h g)|decide|omega|(refine A0 [] ?_;simp only[↓eB,seval,go_sem,bne,CO,C8,hr,O8])
 |false=>
 have h0:¬(decide (nxV 18 (dcM m)<3))=true:=by have n0:nxV 18 (dcM m)≠0:=(by simpa using e0);have n1:nxV 18 (dcM m)≠1:=(by simpa using e1);have n2:nxV 18 (dcM m)≠2:=(by simpa using e2);simp only[decide_eq_true_eq];omega
 cases e3:(nxV 18 (dcM m)==3) with
 |true=>
  have y0:=GB s (nxM (dcM m))
  have x1:=JA (s:=s) (okM.mono o1 (by omega))
  have x1o:=x1.okd o1
  have y1:=Z2 (nxV 2 (pvT s (nxM (dcM m))).2).toNat
  have z1:=D2 (j:=2) x1o (by decide)
  have x2:=Ba (okM.mono x1o (by omega))
  have x2o:=x2.okd x1o
  have h3:(nxV 18 (dcM m)==3)=true:=e3
  have hr:stT d.toNat s m=WW B s m:=by rw[hS];unfold stB;rw[if_neg hn,if_neg h0,if_pos h3]
  simp only[↓eB,seval,go_sem,eN,e0,e1,e2,e3]
  try simp only[A3,A4]
  repeat' first|exact ck|with_reducible apply And.intro|intro _
  all_goals first|(refine okM.mono (by assumption) ?_;omega)|exact z1|exact g0|exact g1|exact g2|(omega)|(simp only[jL3]at *;omega)|(rename_i h;first|exact oI h|exact nah h)|(rename_i _ h _ g;exact sL h g)|decide|omega|(refine A0 [] ?_;simp only[↓eB,seval,go_sem,bne,CO,C8,hr,WW])
 |false=>
 have h3:¬(nxV 18 (dcM m)==3)=true:=by rw[e3];decide
 cases e4:(nxV 18 (dcM m)==4) with
 |true=>
  have y0:=GB s (nxM (dcM m))
  have x1:=JA (s:=s) (okM.mono o1 (by omega))
  have x1o:=x1.okd o1
  have y1:=Z3 (nxV 2 (pvT s (nxM (dcM m))).2).toNat
  have z1:=D2 (j:=2) x1o (by decide)
  have x2:=Ba (okM.mono x1o (by omega))
  have x2o:=x2.okd x1o
  have h4:(nxV 18 (dcM m)==4)=true:=e4
  have hr:stT d.toNat s m=WX B s m:=by rw[hS];unfold stB;rw[if_neg hn,if_neg h0,if_neg h3,if_pos h4]
  simp only[↓eB,seval,go_sem,eN,e0,e1,e2,e3,e4]
  try simp only[A3,A4]
  repeat' first|exact ck|with_reducible apply And.intro|intro _
  all_goals first|(refine okM.mono (by assumption) ?_;omega)|exact z1|exact g0|exact g1|exact g2|(omega)|(simp only[jL3]at *;omega)|(rename_i h;first|exact oI h|exact nah h)|(rename_i _ h _ g;exact sL h g)|decide|omega|(refine A0 [] ?_;simp only[↓eB,seval,go_sem,bne,CO,C8,hr,WX])
 |false=>
 have h4:¬(nxV 18 (dcM m)==4)=true:=by rw[e4];decide
 cases e5:(nxV 18 (dcM m)==5) with
 |true=>
  have y0:=Cu (nxM (dcM m))
  have x1:=Em (okM.mono o1 (by omega))
  have x1o:=x1.okd o1
  have y1:=GB s (Ao (nxM (dcM m))).2
  have x2:=JA (s:=s) (okM.mono x1o (by omega))
  have x2o:=x2.okd x1o
  have h5:(nxV 18 (dcM m)==5)=true:=e5
  have hr:stT d.toNat s m=WY B s m:=by rw[hS];unfold stB;rw[if_neg hn,if_neg h0,if_neg h3,if_neg h4,if_pos h5]
  simp only[↓eB,seval,go_sem,eN,e0,e1,e2,e3,e4,e5]
  try simp only[A3,A4]
  repeat' first|exact ck|with_reducible apply And.intro|intro _
  all_goals first|(refine okM.mono (by assumption) ?_;omega)|exact g0|exact g1|exact g2|(omega)|(simp only[jL3]at *;omega)|(rename_i h;first|exact oI h|exact nah h)|(rename_i _ h _ g;exact sL h g)|decide|omega|(refine A0 [] ?_;simp only[↓eB,seval,go_sem,bne,CO,C8,hr,WY])
 |false=>
 have h5:¬(nxV 18 (dcM m)==5)=true:=by rw[e5];decide
 cases e6:(nxV 18 (dcM m)==6) with
 |true=>
  have y0:=GB s (nxM (dcM m))
  have x1:=JA (s:=s) (okM.mono o1 (by omega))
  have x1o:=x1.okd o1
  have y1:=CV 1 (pvT s (nxM (dcM m))).2
  have x2:=DN 1 (okM.mono x1o (by omega))
  have x2o:=x2.okd x1o
  have h6:(nxV 18 (dcM m)==6)=true:=e6
  have hr:stT d.toNat s m=WZ B s m:=by rw[hS];unfold stB;rw[if_neg hn,if_neg h0,if_neg h3,if_neg h4,if_neg h5,if_pos h6]
  simp only[↓eB,seval,go_sem,eN,e0,e1,e2,e3,e4,e5,e6]
  try simp only[A3,A4]
  repeat' first|exact ck|with_reducible apply And.intro|intro _
  all_goals first|(refine okM.mono (by assumption) ?_;omega)|exact g0|exact g1|exact g2|(omega)|(simp only[jL3]at *;omega)|(rename_i h;first|exact oI h|exact nah h)|(rename_i _ h _ g;exact sL h g)|decide|omega|(refine A0 [] ?_;simp only[↓eB,seval,go_sem,bne,CO,C8,hr,WZ])
 |false=>
 have h6:¬(nxV 18 (dcM m)==6)=true:=by rw[e6];decide
 cases e7:(nxV 18 (dcM m)==7) with
 |true=>
  have y0:=Cu (nxM (dcM m))
  have x1:=Em (okM.mono o1 (by omega))
  have x1o:=x1.okd o1
  have y1:=Rf (nxV 2 (Ao (nxM (dcM m))).2).toNat
  have z1:=D2 (j:=2) x1o (by decide)
  have x2:=Ba (okM.mono x1o (by omega))
  have x2o:=x2.okd x1o
  have y2:=CV 1 (nxM (Ao (nxM (dcM m))).2)
  have x3:=DN 1 (okM.mono x2o (by omega))
  have x3o:=x3.okd x2o
  have h7:(nxV 18 (dcM m)==7)=true:=e7
  have hr:stT d.toNat s m=Wa B s m:=by rw[hS];unfold stB;rw[if_neg hn,if_neg h0,if_neg h3,if_neg h4,if_neg h5,if_neg h6,if_pos h7]
  simp only[↓eB,seval,go_sem,eN,e0,e1,e2,e3,e4,e5,e6,e7]
  try simp only[A3,A4]
  repeat' first|exact ck|with_reducible apply And.intro|intro _
  all_goals first|(refine okM.mono (by assumption) ?_;omega)|exact z1|exact g0|exact g1|exact g2|(omega)|(simp only[jL3]at *;omega)|(rename_i h;first|exact oI h|exact nah h)|(rename_i _ h _ g;exact sL h g)|decide|omega|(refine A0 [] ?_;simp only[↓eB,seval,go_sem,bne,CO,C8,hr,Wa])
 |false=>
 have h7:¬(nxV 18 (dcM m)==7)=true:=by rw[e7];decide
 cases e8:(nxV 18 (dcM m)==8) with
 |true=>
  have y0:=Rf (nxV 2 (nxM (dcM m))).toNat
  have z0:=D2 (j:=2) o1 (by decide)
  have x1:=Ba (okM.mono o1 (by omega))
  have x1o:=x1.okd o1
  have y1:=CV 1 (nxM (nxM (dcM m)))
  have x2:=DN 1 (okM.mono x1o (by omega))
  have x2o:=x2.okd x1o
  have y2:=CV 1 (AX 1 (nxM (nxM (dcM m)))).2
  have x3:=DN 1 (okM.mono x2o (by omega))
  have x3o:=x3.okd x2o
  have h8:(nxV 18 (dcM m)==8)=true:=e8
  have hr:stT d.toNat s m=Wb B s m:=by rw[hS];unfold stB;rw[if_neg hn,if_neg h0,if_neg h3,if_neg h4,if_neg h5,if_neg h6,if_neg h7,if_pos h8]
  simp only[↓eB,seval,go_sem,eN,e0,e1,e2,e3,e4,e5,e6,e7,e8]
  try simp only[A3,A4]
  repeat' first|exact ck|with_reducible apply And.intro|intro _
  all_goals first|(refine okM.mono (by assumption) ?_;omega)|exact z0|exact g0|exact g1|exact g2|(omega)|(simp only[jL3]at *;omega)|(rename_i h;first|exact oI h|exact nah h)|(rename_i _ h _ g;exact sL h g)|decide|omega|(refine A0 [] ?_;simp only[↓eB,seval,go_sem,bne,CO,C8,hr,Wb])
 |false=>
 have h8:¬(nxV 18 (dcM m)==8)=true:=by rw[e8];decide
 cases e9:(nxV 18 (dcM m)==9) with
 |true=>
  have z0:=D2 (j:=4) o1 (by decide)
  have x1:=Ba (okM.mono o1 (by omega))
  have x1o:=x1.okd o1
  have y1:=Cu (nxM (nxM (dcM m)))
  have x2:=Em (okM.mono x1o (by omega))
  have x2o:=x2.okd x1o
  have y2n:=Qr (nxV 4 (nxM (dcM m)))
  have y2:=Ow (nxV 4 (nxM (dcM m))) s (Ao (nxM (nxM (dcM m)))).2
  have x3:=Qq (t:=nxV 4 (nxM (dcM m))) (s:=s) (okM.mono x2o (by omega))
  have x3o:=x3.okd x2o
  have h9:(decide (nxV 18 (dcM m)<11))=true:=decide_eq_true (by have:=eq_of_beq e9;omega)
  have hr:stT d.toNat s m=Ri B s m:=by rw[hS];unfold stB;rw[if_neg hn,if_neg h0,if_neg h3,if_neg h4,if_neg h5,if_neg h6,if_neg h7,if_neg h8,if_pos h9]
  simp only[↓eB,seval,go_sem,eN,e0,e1,e2,e3,e4,e5,e6,e7,e8,e9]
  try simp only[A3,A4]
  repeat' first|exact ck|with_reducible apply And.intro|intro _
  all_goals first|(refine okM.mono (by assumption) ?_;omega)|exact z0|exact z0.1|exact g0|exact g1|exact g2|(omega)|(simp only[jL3]at *;omega)|(rename_i h;first|exact oI h|exact nah h)|(rename_i _ h _ g;exact sL h g)|decide|omega|(refine A0 [] ?_;simp only[↓eB,seval,go_sem,bne,CO,C8,hr,Ri])
 |false=>
 cases e10:(nxV 18 (dcM m)==10) with
 |true=>
  have z0:=D2 (j:=4) o1 (by decide)
  have x1:=Ba (okM.mono o1 (by omega))
  have x1o:=x1.okd o1
  have y1:=Cu (nxM (nxM (dcM m)))
  have x2:=Em (okM.mono x1o (by omega))
  have x2o:=x2.okd x1o
  have y2n:=Qr (nxV 4 (nxM (dcM m)))
  have y2:=Ow (nxV 4 (nxM (dcM m))) s (Ao (nxM (nxM (dcM m)))).2
  have x3:=Qq (t:=nxV 4 (nxM (dcM m))) (s:=s) (okM.mono x2o (by omega))
  have x3o:=x3.okd x2o
  have h9:(decide (nxV 18 (dcM m)<11))=true:=decide_eq_true (by have:=eq_of_beq e10;omega)
  have hr:stT d.toNat s m=Ri B s m:=by rw[hS];unfold stB;rw[if_neg hn,if_neg h0,if_neg h3,if_neg h4,if_neg h5,if_neg h6,if_neg h7,if_neg h8,if_pos h9]
  simp only[↓eB,seval,go_sem,eN,e0,e1,e2,e3,e4,e5,e6,e7,e8,e9,e10]
  try simp only[A3,A4]
  repeat' first|exact ck|with_reducible apply And.intro|intro _
  all_goals first|(refine okM.mono (by assumption) ?_;omega)|exact z0|exact z0.1|exact g0|exact g1|exact g2|(omega)|(simp only[jL3]at *;omega)|(rename_i h;first|exact oI h|exact nah h)|(rename_i _ h _ g;exact sL h g)|decide|omega|(refine A0 [] ?_;simp only[↓eB,seval,go_sem,bne,CO,C8,hr,Ri])
 |false=>
 have h9:¬(decide (nxV 18 (dcM m)<11))=true:=by have k0:¬(nxV 18 (dcM m)<3):=(by simpa using h0);have n3:nxV 18 (dcM m)≠3:=(by simpa using e3);have n4:nxV 18 (dcM m)≠4:=(by simpa using e4);have n5:nxV 18 (dcM m)≠5:=(by simpa using e5);have n6:nxV 18 (dcM m)≠6:=(by simpa using e6);have n7:nxV 18 (dcM m)≠7:=(by simpa using e7);have n8:nxV 18 (dcM m)≠8:=(by simpa using e8);have n9:nxV 18 (dcM m)≠9:=(by simpa using e9);have n10:nxV 18 (dcM m)≠10:=(by simpa using e10);simp only[decide_eq_true_eq];omega
 cases e11:(nxV 18 (dcM m)==11) with
 |true=>
  have z0:=D2 (j:=4) o1 (by decide)
  have x1:=Ba (okM.mono o1 (by omega))
  have x1o:=x1.okd o1
  have y1n:=Qr (nxV 4 (nxM (dcM m)))
  have z1:=D2 (j:=9) x1o (by decide)
  have x2:=Ba (okM.mono x1o (by omega))
  have x2o:=x2.okd x1o
  have y2:=Ow (IntKind.i64.wrap (nxV 4 (nxM (dcM m))+IntKind.i64.wrap ((nxV 9 (nxM (nxM (dcM m)))).tdiv 8))) s (nxM (nxM (nxM (dcM m))))
  have x3:=Qq (t:=IntKind.i64.wrap (nxV 4 (nxM (dcM m))+IntKind.i64.wrap ((nxV 9 (nxM (nxM (dcM m)))).tdiv 8))) (s:=s) (okM.mono x2o (by omega))
  have x3o:=x3.okd x2o
  have h11:(nxV 18 (dcM m)==11)=true:=e11
  have hr:stT d.toNat s m=TZ B s m:=by rw[hS];unfold stB;rw[if_neg hn,if_neg h0,if_neg h3,if_neg h4,if_neg h5,if_neg h6,if_neg h7,if_neg h8,if_neg h9,if_pos h11]
  simp only[↓eB,seval,go_sem,eN,e0,e1,e2,e3,e4,e5,e6,e7,e8,e9,e10,e11]
  try simp only[A3,A4]
  repeat' first|exact ck|with_reducible apply And.intro|intro _
  all_goals first|(refine okM.mono (by assumption) ?_;omega)|exact z0|exact z0.1|exact z1|exact z1.1|exact g0|exact g1|exact g2|(omega)|(simp only[jL3]at *;omega)|(rename_i h;first|exact oI h|exact nah h)|(rename_i _ h _ g;exact sL h g)|decide|omega|(refine A0 [] ?_;simp only[↓eB,seval,go_sem,bne,CO,C8,hr,TZ])
 |false=>
 have h11:¬(nxV 18 (dcM m)==11)=true:=by rw[e11];decide
 cases e12:(nxV 18 (dcM m)==12) with
 |true=>
  have y0:=CV 1 (nxM (dcM m))
  have x1:=DN 1 (okM.mono o1 (by omega))
  have x1o:=x1.okd o1
  have h12:(nxV 18 (dcM m)==12)=true:=e12
  have hr:stT d.toNat s m=Ta B s m:=by rw[hS];unfold stB;rw[if_neg hn,if_neg h0,if_neg h3,if_neg h4,if_neg h5,if_neg h6,if_neg h7,if_neg h8,if_neg h9,if_neg h11,if_pos h12]
  simp only[↓eB,seval,go_sem,eN,e0,e1,e2,e3,e4,e5,e6,e7,e8,e9,e10,e11,e12]
  try simp only[A3,A4]
  repeat' first|exact ck|with_reducible apply And.intro|intro _
  all_goals first|(refine okM.mono (by assumption) ?_;omega)|exact g0|exact g1|exact g2|(omega)|(simp only[jL3]at *;omega)|(rename_i h;first|exact oI h|exact nah h)|(rename_i _ h _ g;exact sL h g)|decide|omega|(refine A0 [] ?_;simp only[↓eB,seval,go_sem,bne,CO,C8,hr,Ta])
 |false=>
 have h12:¬(nxV 18 (dcM m)==12)=true:=by rw[e12];decide
 cases e13:(nxV 18 (dcM m)==13) with
 |true=>
  have y0:=GX 1 s (nxM (dcM m))
  have x1:=Hw 1 (s:=s) (okM.mono o1 (by omega))
  have x1o:=x1.okd o1
  have h13:(nxV 18 (dcM m)==13)=true:=e13
  have hr:stT d.toNat s m=Tb B s m:=by rw[hS];unfold stB;rw[if_neg hn,if_neg h0,if_neg h3,if_neg h4,if_neg h5,if_neg h6,if_neg h7,if_neg h8,if_neg h9,if_neg h11,if_neg h12,if_pos h13]
  simp only[↓eB,seval,go_sem,eN,e0,e1,e2,e3,e4,e5,e6,e7,e8,e9,e10,e11,e12,e13]
  try simp only[A3,A4]
  repeat' first|exact ck|with_reducible apply And.intro|intro _
  all_goals first|(refine okM.mono (by assumption) ?_;omega)|exact g0|exact g1|exact g2|(omega)|(simp only[jL3]at *;omega)|(rename_i h;first|exact oI h|exact nah h)|(rename_i _ h _ g;exact sL h g)|decide|omega|(refine A0 [] ?_;simp only[↓eB,seval,go_sem,bne,CO,C8,hr,Tb])
 |false=>
 have h13:¬(nxV 18 (dcM m)==13)=true:=by rw[e13];decide
 cases hd0:decide (d≤0) with
 |true=>
  have hz:d.toNat=0:=by have:=of_decide_eq_true hd0;omega
  have hS0:stT d.toNat s m=stB false (fun m=>([],m)) s m:=by rw[hz];rfl
  have y0:=Cu (nxM (dcM m))
  have x1:=Em (okM.mono o1 (by omega))
  have x1o:=x1.okd o1
  have y1:=CV 1 (Ao (nxM (dcM m))).2
  have x2:=DN 1 (okM.mono x1o (by omega))
  have x2o:=x2.okd x1o
  have hr:stT d.toNat s m=Pw (fun m=>([],m)) s m:=by rw[hS0];unfold stB;rw[if_neg hn,if_neg h0,if_neg h3,if_neg h4,if_neg h5,if_neg h6,if_neg h7,if_neg h8,if_neg h9,if_neg h11,if_neg h12,if_neg h13,if_pos (show (!false)=true from rfl)]
  simp only[↓eB,seval,go_sem,eN,e0,e1,e2,e3,e4,e5,e6,e7,e8,e9,e10,e11,e12,e13,hd0]
  try simp only[A3,A4]
  repeat' first|exact ck|with_reducible apply And.intro|intro _
  all_goals first|(refine okM.mono (by assumption) ?_;omega)|exact g0|exact g1|exact g2|(omega)|(simp only[jL3]at *;omega)|(rename_i h;first|exact oI h|exact nah h)|(rename_i _ h _ g;exact sL h g)|decide|omega|(refine A0 [] ?_;simp only[↓eB,seval,go_sem,bne,CO,C8,hr,Pw])
 |false=>
  have hz:d.toNat=(d-1).toNat+1:=by have:=of_decide_eq_false hd0;omega
  have hS1:stT d.toNat s m=stB true (HR (stT (d-1).toNat s)) s m:=by rw[hz];rfl
  obtain⟨K,hK⟩:∃K:Int,K=1+3*stC (d-1).toNat:=⟨_,rfl⟩
  have c8:=Qs (d-1).toNat
  have hL:=Te (d-1).toNat (by omega)
  have g3:1≤d:=by have:=of_decide_eq_false hd0;omega
  have g4:d-1<(n:Int):=by omega
  have hC:stC d.toNat=60+2*K:=by rw[hz,hK];rfl
  have oK:okM (nxM (dcM m)) (59+2*K):=a1.ok (okM.mono oD (by omega))
  have hB:∀q,okM q K→Ax q ((HR (stT (d-1).toNat s)) q).2 K:=by rw[hK];exact fun q hq=>co (by omega) (fun r hr=>Tf _ hr) q hq
  have hBl:∀q,((HR (stT (d-1).toNat s)) q).1.length≤4+3*stL (d-1).toNat:=fun q=>Z8 (fun r=>Oz _ s r) q
  have hdp:¬(!true)=true:=by decide
  cases ei:(nxV 2 (nxM (dcM m))==0) with
  |true=>
   cases ee:(nxV 2 ((HR (stT (d-1).toNat s)) (Am 1 s (nxM (nxM (dcM m)))).2).2==0) with
   |true=>
    have hel:(stV (HR (stT (d-1).toNat s)) s m==0)=true:=ee
    have z0:=D2 (j:=2) oK (by decide)
    have x1:=Ba (okM.mono oK (by omega))
    have x1o:=x1.okd oK
    have y1:=GX 1 s (nxM (nxM (dcM m)))
    have x2:=Hw 1 (s:=s) (okM.mono x1o (by omega))
    have x2o:=x2.okd x1o
    have y2:=hBl (Am 1 s (nxM (nxM (dcM m)))).2
    have x3:=hB _ (okM.mono x2o (by omega))
    have x3o:=x3.okd x2o
    have z3:=D2 (j:=2) x3o (by decide)
    have x4:=Ba (okM.mono x3o (by omega))
    have x4o:=x4.okd x3o
    have y4:=hBl (nxM ((HR (stT (d-1).toNat s)) (Am 1 s (nxM (nxM (dcM m)))).2).2)
    have x5:=hB _ (okM.mono x4o (by omega))
    have x5o:=x5.okd x4o
    have hr:stT d.toNat s m=Px (HR (stT (d-1).toNat s)) s m:=by rw[hS1];unfold stB;rw[if_neg hn,if_neg h0,if_neg h3,if_neg h4,if_neg h5,if_neg h6,if_neg h7,if_neg h8,if_neg h9,if_neg h11,if_neg h12,if_neg h13,if_neg hdp,if_pos ei,if_pos hel]
    simp only[↓eB,seval,go_sem,eN,e0,e1,e2,e3,e4,e5,e6,e7,e8,e9,e10,e11,e12,e13,hd0,ei,ee]
    try simp only[A3,A4]
    repeat' first|exact ck|with_reducible apply And.intro|intro _
    all_goals first|(refine okM.mono (by assumption) ?_;omega)|exact z0|exact z0.1|exact z3|exact z3.1|exact g0|exact g1|exact g2|(omega)|(simp only[jL3]at *;omega)|(rename_i h;first|exact oI h|exact nah h)|(rename_i _ h _ g;exact sL h g)|decide|omega|(refine A0 [] ?_;simp only[↓eB,seval,go_sem,bne,CO,C8,hr,Px])
   |false=>
    have hel:¬(stV (HR (stT (d-1).toNat s)) s m==0)=true:=by rw[show (stV (HR (stT (d-1).toNat s)) s m==0)=false from ee];decide
    have z0:=D2 (j:=2) oK (by decide)
    have x1:=Ba (okM.mono oK (by omega))
    have x1o:=x1.okd oK
    have y1:=GX 1 s (nxM (nxM (dcM m)))
    have x2:=Hw 1 (s:=s) (okM.mono x1o (by omega))
    have x2o:=x2.okd x1o
    have y2:=hBl (Am 1 s (nxM (nxM (dcM m)))).2
    have x3:=hB _ (okM.mono x2o (by omega))
    have x3o:=x3.okd x2o
    have z3:=D2 (j:=2) x3o (by decide)
    have x4:=Ba (okM.mono x3o (by omega))
    have x4o:=x4.okd x3o
    have hr:stT d.toNat s m=Tc (HR (stT (d-1).toNat s)) s m:=by rw[hS1];unfold stB;rw[if_neg hn,if_neg h0,if_neg h3,if_neg h4,if_neg h5,if_neg h6,if_neg h7,if_neg h8,if_neg h9,if_neg h11,if_neg h12,if_neg h13,if_neg hdp,if_pos ei,if_neg hel]
    simp only[↓eB,seval,go_sem,eN,e0,e1,e2,e3,e4,e5,e6,e7,e8,e9,e10,e11,e12,e13,hd0,ei,ee]
    try simp only[A3,A4]
    repeat' first|exact ck|with_reducible apply And.intro|intro _
    all_goals first|(refine okM.mono (by assumption) ?_;omega)|exact z0|exact z0.1|exact z3|exact z3.1|exact g0|exact g1|exact g2|(omega)|(simp only[jL3]at *;omega)|(rename_i h;first|exact oI h|exact nah h)|(rename_i _ h _ g;exact sL h g)|decide|omega|(refine A0 [] ?_;simp only[↓eB,seval,go_sem,bne,CO,C8,hr,Tc])
  |false=>
   have hif:¬(nxV 2 (nxM (dcM m))==0)=true:=by rw[ei];decide
   have z0:=D2 (j:=2) oK (by decide)
   have x1:=Ba (okM.mono oK (by omega))
   have x1o:=x1.okd oK
   have y1:=GX 1 s (nxM (nxM (dcM m)))
   have x2:=Hw 1 (s:=s) (okM.mono x1o (by omega))
   have x2o:=x2.okd x1o
   have y2:=hBl (Am 1 s (nxM (nxM (dcM m)))).2
   have x3:=hB _ (okM.mono x2o (by omega))
   have x3o:=x3.okd x2o
   have hr:stT d.toNat s m=O9 (HR (stT (d-1).toNat s)) s m:=by rw[hS1];unfold stB;rw[if_neg hn,if_neg h0,if_neg h3,if_neg h4,if_neg h5,if_neg h6,if_neg h7,if_neg h8,if_neg h9,if_neg h11,if_neg h12,if_neg h13,if_neg hdp,if_neg hif]
   simp only[↓eB,seval,go_sem,eN,e0,e1,e2,e3,e4,e5,e6,e7,e8,e9,e10,e11,e12,e13,hd0,ei]
   try simp only[A3,A4]
   repeat' first|exact ck|with_reducible apply And.intro|intro _
   all_goals first|(refine okM.mono (by assumption) ?_;omega)|exact z0|exact z0.1|exact g0|exact g1|exact g2|(omega)|(simp only[jL3]at *;omega)|(rename_i h;first|exact oI h|exact nah h)|(rename_i _ h _ g;exact sL h g)|decide|omega|(refine A0 [] ?_;simp only[↓eB,seval,go_sem,bne,CO,C8,hr,O9])
theorem Rj:∀n:Nat,NK n
 |0=>by
  rintro ⟨m,s,d,_u⟩ w M I lab fz xs hc hA hl hx
  exact absurd hc.2.2.1 (by have:=hc.2.1;dsimp only at this ⊢;omega)
 |n+1=>gX n (Rj n)
end Go.Proofs.Ytjnnmindcbgjhaa
