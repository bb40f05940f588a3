/- The maker's statements and blocks. No conditions but those in each statement. -/
import Derived.Test.YtapedeoheilnnaaGreatMk3
set_option linter.all false
set_option maxRecDepth 20000
set_option maxHeartbeats 16000000
open List (length_append length_cons length_nil)
namespace Go.Proofs.YtapedeoheilnnaaGreat
open Go Go.Sy Go.RowKit
variable{c:Int}{f:Mk->T}{m:Mk}
theorem mK{P:Prop}(h:P:=by (repeat' first|exact ck|with_reducible apply And.intro|intro _);all_goals first|(refine okM.mono (by assumption) ?_;omega)|exact g0|exact g1|exact g2|(omega)|(simp only[jL3]at *;omega)|exact KZ|(refine A1 [] ?_;simp only[seval,go_sem,bne,E8,E9,hr,Sr])):P:=h
theorem xh{P:Prop}(h:P:=by (repeat' first|exact ck|with_reducible apply And.intro|intro _);all_goals first|(refine okM.mono (by assumption) ?_;omega)|exact z0|exact z0.1|exact g0|exact g1|exact g2|(omega)|(simp only[jL3]at *;omega)|exact KZ|(refine A1 [] ?_;simp only[seval,go_sem,bne,E8,E9,hr,V5])):P:=h
theorem S1(w:Int):(nmS w).length<=1:=sH _
def dcM(m:Mk):Mk:={ m with n:=w64i (m.n-1) }
theorem Pa(m:Mk):(⟨m.b,m.i,IntKind.i64.wrap (m.n-1)⟩:Mk)=dcM m:=rfl
theorem qB(h:okM m c):okM (dcM m) c:=h
theorem Ax.okd{q:Mk}{e:Int}(h:Ax m q c)(ho:okM m e):okM q (e-c):=h.ok (by rw[show c+(e-c)=e by omega];exact ho)
theorem A2u(m:Mk):Ax m (dcM m) 0:=⟨Int.le_refl _,by show m.i<=m.i+0;omega,rfl⟩
def Ho(f:Mk->T):Nat->List UInt8->Mk->T
 |0,acc,m=>(acc,m)
 |k+1,acc,m=>Ho f k (acc++(f m).1) (f m).2
def IA(f:Mk->T)(m:Mk):T:=((Ho f (nxV 4 m).toNat [123,32] (nxM m)).1++[125,32],(Ho f (nxV 4 m).toNat [123,32] (nxM m)).2)
def Sr(B:Mk->T)(s:Int)(m:Mk):T:=(((((B7 (nxM (dcM m))).1++[32,61,32])++(AV 2 (B7 (nxM (dcM m))).2).1)++[59,32]),(AV 2 (B7 (nxM (dcM m))).2).2)
def Yp(B:Mk->T)(s:Int)(m:Mk):T:=(((((pvT s (nxM (dcM m))).1++[32,61,32,38])++cdT.getD (nxV 2 (pvT s (nxM (dcM m))).2).toNat [])++[59,32]),nxM (pvT s (nxM (dcM m))).2)
def Yq(B:Mk->T)(s:Int)(m:Mk):T:=(((((pvT s (nxM (dcM m))).1++[32,61,32])++nqT.getD (nxV 2 (pvT s (nxM (dcM m))).2).toNat [])++[59,32]),nxM (pvT s (nxM (dcM m))).2)
def Yr(B:Mk->T)(s:Int)(m:Mk):T:=(((((B7 (nxM (dcM m))).1++[32,61,32,42])++(pvT s (B7 (nxM (dcM m))).2).1)++[59,32]),(pvT s (B7 (nxM (dcM m))).2).2)
def Ys(B:Mk->T)(s:Int)(m:Mk):T:=((((([42]++(pvT s (nxM (dcM m))).1)++[32,61,32])++(AV 1 (pvT s (nxM (dcM m))).2).1)++[59,32]),(AV 1 (pvT s (nxM (dcM m))).2).2)
def Yt(B:Mk->T)(s:Int)(m:Mk):T:=(((((((B7 (nxM (dcM m))).1++[32,61,32])++tuT.getD (nxV 2 (B7 (nxM (dcM m))).2).toNat [])++[91])++(AV 1 (nxM (B7 (nxM (dcM m))).2)).1)++[93,59,32]),(AV 1 (nxM (B7 (nxM (dcM m))).2)).2)
def Yu(B:Mk->T)(s:Int)(m:Mk):T:=((((((tuT.getD (nxV 2 (nxM (dcM m))).toNat []++[91])++(AV 1 (nxM (nxM (dcM m)))).1)++[93,32,61,32])++(AV 1 (AV 1 (nxM (nxM (dcM m)))).2).1)++[59,32]),(AV 1 (AV 1 (nxM (nxM (dcM m)))).2).2)
def V5(B:Mk->T)(s:Int)(m:Mk):T:=(((((((B7 (nxM (nxM (dcM m)))).1++[32,61,32])++nmS (nxV 4 (nxM (dcM m))))++[40])++(Hm (nxV 4 (nxM (dcM m))) s (B7 (nxM (nxM (dcM m)))).2).1)++[41,59,32]),(Hm (nxV 4 (nxM (dcM m))) s (B7 (nxM (nxM (dcM m)))).2).2)
def V6(B:Mk->T)(s:Int)(m:Mk):T:=((((nmS (nxV 4 (nxM (dcM m)))++[40])++(Hm (IntKind.i64.wrap (nxV 4 (nxM (dcM m))+IntKind.i64.wrap ((nxV 9 (nxM (nxM (dcM m)))).tdiv 8))) s (nxM (nxM (nxM (dcM m))))).1)++[41,59,32]),(Hm (IntKind.i64.wrap (nxV 4 (nxM (dcM m))+IntKind.i64.wrap ((nxV 9 (nxM (nxM (dcM m)))).tdiv 8))) s (nxM (nxM (nxM (dcM m))))).2)
def V7(B:Mk->T)(s:Int)(m:Mk):T:=((([114,101,116,117,114,110,32]++(AV 1 (nxM (dcM m))).1)++[59,32]),(AV 1 (nxM (dcM m))).2)
def V8(B:Mk->T)(s:Int)(m:Mk):T:=((([97,115,115,101,114,116,32,40]++(B0 1 s (nxM (dcM m))).1)++[41,59,32]),(B0 1 s (nxM (dcM m))).2)
def Qh(B:Mk->T)(s:Int)(m:Mk):T:=(((((B7 (nxM (dcM m))).1++[32,61,32])++(AV 1 (B7 (nxM (dcM m))).2).1)++[59,32]),(AV 1 (B7 (nxM (dcM m))).2).2)
def V9(B:Mk->T)(s:Int)(m:Mk):T:=(((([105,102,32,40]++(B0 1 s (nxM (nxM (dcM m)))).1)++[41,32])++(B (B0 1 s (nxM (nxM (dcM m)))).2).1),nxM (B (B0 1 s (nxM (nxM (dcM m)))).2).2)
def Qi(B:Mk->T)(s:Int)(m:Mk):T:=(((((([105,102,32,40]++(B0 1 s (nxM (nxM (dcM m)))).1)++[41,32])++(B (B0 1 s (nxM (nxM (dcM m)))).2).1)++[101,108,115,101,32])++(B (nxM (B (B0 1 s (nxM (nxM (dcM m)))).2).2)).1),(B (nxM (B (B0 1 s (nxM (nxM (dcM m)))).2).2)).2)
def Oi(B:Mk->T)(s:Int)(m:Mk):T:=(((([119,104,105,108,101,32,40]++(B0 1 s (nxM (nxM (dcM m)))).1)++[41,32])++(B (B0 1 s (nxM (nxM (dcM m)))).2).1),(B (B0 1 s (nxM (nxM (dcM m)))).2).2)
def stV(B:Mk->T)(s:Int)(m:Mk):Int:=nxV 2 (B (B0 1 s (nxM (nxM (dcM m)))).2).2
def stB(dp:Bool)(B:Mk->T)(s:Int)(m:Mk):T:=
 if decide ((dcM m).n<0)=true then (([114,101,116,117,114,110,32]++(nuT (dcM m)).1)++[59,32],(nuT (dcM m)).2)
 else if (decide (nxV 18 (dcM m)<3))=true then Sr B s m
 else if (nxV 18 (dcM m)==3)=true then Yp B s m
 else if (nxV 18 (dcM m)==4)=true then Yq B s m
 else if (nxV 18 (dcM m)==5)=true then Yr B s m
 else if (nxV 18 (dcM m)==6)=true then Ys B s m
 else if (nxV 18 (dcM m)==7)=true then Yt B s m
 else if (nxV 18 (dcM m)==8)=true then Yu B s m
 else if (decide (nxV 18 (dcM m)<11))=true then V5 B s m
 else if (nxV 18 (dcM m)==11)=true then V6 B s m
 else if (nxV 18 (dcM m)==12)=true then V7 B s m
 else if (nxV 18 (dcM m)==13)=true then V8 B s m
 else if (!dp)=true then Qh B s m
 else if (nxV 2 (nxM (dcM m))==0)=true then (if (stV B s m==0)=true then Qi B s m else V9 B s m)
 else Oi B s m
def stT:Nat->Int->Mk->T
 |0,s,m=>stB false (λm=>([],m)) s m
 |k+1,s,m=>stB true (IA (stT k s)) s m
def bc(c:Int):Nat->Int
 |0=>0
 |k+1=>c+bc c k
def bn(c:Nat):Nat->Nat
 |0=>0
 |k+1=>c+bn c k
theorem VA(h:0<=c):∀k,0<=bc c k
 |0=>Int.le_refl _
 |k+1=>by have:=VA h k;simp only[bc];omega
theorem qC(h:0<=c):∀k,k<=3->bc c k<=3*c
 |0,_=>by simp only[bc];omega
 |1,_=>by simp only[bc];omega
 |2,_=>by simp only[bc];omega
 |3,_=>by simp only[bc];omega
theorem qD{c:Nat}:∀k,k<=3->bn c k<=3*c
 |0,_=>by simp only[bn];omega
 |1,_=>by simp only[bn];omega
 |2,_=>by simp only[bn];omega
 |3,_=>by simp only[bn];omega
theorem qE(h0:0<=c)(hf:∀q,okM q c->Ax q (f q).2 c):∀(k:Nat) (acc:List UInt8) (q:Mk),okM q (bc c k)->Ax q (Ho f k acc q).2 (bc c k)
 |0,acc,q,h=>Ax.refl q
 |k+1,acc,q,h=>by
  have h1:=VA h0 k
  simp only[bc]at h ⊢
  have a1:=hf q (h.mono (by omega))
  exact a1.trans (qE h0 hf k _ _ (a1.ok h))
theorem ZQ{c:Nat}(hf:∀q,(f q).1.length<=c):∀(k:Nat) (acc:List UInt8) (q:Mk),(Ho f k acc q).1.length<=acc.length+bn c k
 |0,acc,q=>Nat.le_refl _
 |k+1,acc,q=>by
  have h1:=hf q
  have h2:=ZQ hf k (acc++(f q).1) (f q).2
  simp only[Ho,bn,length_append]at h2 ⊢
  omega
theorem iB(h0:0<=c)(hf:∀q,okM q c->Ax q (f q).2 c)(m:Mk)(h:okM m (1+3*c)):Ax m (IA f m).2 (1+3*c):=by
 have a1:=C6 (h.mono (by omega))
 have o1:okM (nxM m) (3*c):=a1.ok h
 have hv:=E0 (j:=4) h (by decide)
 have hb:=qC h0 (nxV 4 m).toNat (by omega)
 exact(a1.trans (qE h0 hf (nxV 4 m).toNat [123,32] (nxM m) (o1.mono hb))).mono (by omega)
theorem cV{c:Nat}(hf:∀q,(f q).1.length<=c)(m:Mk):(IA f m).1.length<=4+3*c:=by
 have hv:nxV 4 m<4:=Int.tmod_lt_of_pos _ (by decide)
 have hb:=qD (c:=c) (nxV 4 m).toNat (by omega)
 have h1:=ZQ hf (nxV 4 m).toNat [123,32] (nxM m)
 simp only[IA,jL3]at h1 ⊢
 omega
theorem iC{dp:Bool}{B:Mk->T}{K:Int}(hK:0<=K)(hB:∀q,okM q K->Ax q (B q).2 K){s:Int}(o0:okM m (60+2*K)):Ax m (stB dp B s m).2 (60+2*K):=by
 have a0:=A2u m
 have oK0:okM (dcM m) (60+2*K):=qB o0
 have a1:=a0.trans (C6 (oK0.mono (by omega)))
 have oK:okM (nxM (dcM m)) (59+2*K):=a1.ok (o0.mono (by omega))
 have o1:okM (nxM (dcM m)) 59:=oK.mono (by omega)
 unfold stB
 by_cases hn:decide ((dcM m).n<0)=true
 .rw[if_pos hn]
  exact(a0.trans (eZ (oK0.mono (by omega)))).mono (by omega)
 rw[if_neg hn]
 by_cases h0:(decide (nxV 18 (dcM m)<3))=true
 .rw[if_pos h0]
  have x1:=Fh (okM.mono o1 (by omega))
  have x1o:=x1.okd o1
  have x2:=EU 2 (okM.mono x1o (by omega))
  have x2o:=x2.okd x1o
  show Ax m (AV 2 (B7 (nxM (dcM m))).2).2 _
  exact((a1.trans x1).trans x2).mono (by omega)
 rw[if_neg h0]
 by_cases h3:(nxV 18 (dcM m)==3)=true
 .rw[if_pos h3]
  have x1:=Jf (s:=s) (okM.mono o1 (by omega))
  have x1o:=x1.okd o1
  have x2:=C6 (okM.mono x1o (by omega))
  have x2o:=x2.okd x1o
  show Ax m (nxM (pvT s (nxM (dcM m))).2) _
  exact((a1.trans x1).trans x2).mono (by omega)
 rw[if_neg h3]
 by_cases h4:(nxV 18 (dcM m)==4)=true
 .rw[if_pos h4]
  have x1:=Jf (s:=s) (okM.mono o1 (by omega))
  have x1o:=x1.okd o1
  have x2:=C6 (okM.mono x1o (by omega))
  have x2o:=x2.okd x1o
  show Ax m (nxM (pvT s (nxM (dcM m))).2) _
  exact((a1.trans x1).trans x2).mono (by omega)
 rw[if_neg h4]
 by_cases h5:(nxV 18 (dcM m)==5)=true
 .rw[if_pos h5]
  have x1:=Fh (okM.mono o1 (by omega))
  have x1o:=x1.okd o1
  have x2:=Jf (s:=s) (okM.mono x1o (by omega))
  have x2o:=x2.okd x1o
  show Ax m (pvT s (B7 (nxM (dcM m))).2).2 _
  exact((a1.trans x1).trans x2).mono (by omega)
 rw[if_neg h5]
 by_cases h6:(nxV 18 (dcM m)==6)=true
 .rw[if_pos h6]
  have x1:=Jf (s:=s) (okM.mono o1 (by omega))
  have x1o:=x1.okd o1
  have x2:=EU 1 (okM.mono x1o (by omega))
  have x2o:=x2.okd x1o
  show Ax m (AV 1 (pvT s (nxM (dcM m))).2).2 _
  exact((a1.trans x1).trans x2).mono (by omega)
 rw[if_neg h6]
 by_cases h7:(nxV 18 (dcM m)==7)=true
 .rw[if_pos h7]
  have x1:=Fh (okM.mono o1 (by omega))
  have x1o:=x1.okd o1
  have x2:=C6 (okM.mono x1o (by omega))
  have x2o:=x2.okd x1o
  have x3:=EU 1 (okM.mono x2o (by omega))
  have x3o:=x3.okd x2o
  show Ax m (AV 1 (nxM (B7 (nxM (dcM m))).2)).2 _
  exact(((a1.trans x1).trans x2).trans x3).mono (by omega)
 rw[if_neg h7]
 by_cases h8:(nxV 18 (dcM m)==8)=true
 .rw[if_pos h8]
  have x1:=C6 (okM.mono o1 (by omega))
  have x1o:=x1.okd o1
  have x2:=EU 1 (okM.mono x1o (by omega))
  have x2o:=x2.okd x1o
  have x3:=EU 1 (okM.mono x2o (by omega))
  have x3o:=x3.okd x2o
  show Ax m (AV 1 (AV 1 (nxM (nxM (dcM m)))).2).2 _
  exact(((a1.trans x1).trans x2).trans x3).mono (by omega)
 rw[if_neg h8]
 by_cases h9:(decide (nxV 18 (dcM m)<11))=true
 .rw[if_pos h9]
  have x1:=C6 (okM.mono o1 (by omega))
  have x1o:=x1.okd o1
  have x2:=Fh (okM.mono x1o (by omega))
  have x2o:=x2.okd x1o
  have x3:=S0 (t:=nxV 4 (nxM (dcM m))) (s:=s) (okM.mono x2o (by omega))
  have x3o:=x3.okd x2o
  show Ax m (Hm (nxV 4 (nxM (dcM m))) s (B7 (nxM (nxM (dcM m)))).2).2 _
  exact(((a1.trans x1).trans x2).trans x3).mono (by omega)
 rw[if_neg h9]
 by_cases h11:(nxV 18 (dcM m)==11)=true
 .rw[if_pos h11]
  have x1:=C6 (okM.mono o1 (by omega))
  have x1o:=x1.okd o1
  have x2:=C6 (okM.mono x1o (by omega))
  have x2o:=x2.okd x1o
  have x3:=S0 (t:=IntKind.i64.wrap (nxV 4 (nxM (dcM m))+IntKind.i64.wrap ((nxV 9 (nxM (nxM (dcM m)))).tdiv 8))) (s:=s) (okM.mono x2o (by omega))
  have x3o:=x3.okd x2o
  show Ax m (Hm (IntKind.i64.wrap (nxV 4 (nxM (dcM m))+IntKind.i64.wrap ((nxV 9 (nxM (nxM (dcM m)))).tdiv 8))) s (nxM (nxM (nxM (dcM m))))).2 _
  exact(((a1.trans x1).trans x2).trans x3).mono (by omega)
 rw[if_neg h11]
 by_cases h12:(nxV 18 (dcM m)==12)=true
 .rw[if_pos h12]
  have x1:=EU 1 (okM.mono o1 (by omega))
  have x1o:=x1.okd o1
  show Ax m (AV 1 (nxM (dcM m))).2 _
  exact(a1.trans x1).mono (by omega)
 rw[if_neg h12]
 by_cases h13:(nxV 18 (dcM m)==13)=true
 .rw[if_pos h13]
  have x1:=Ie 1 (s:=s) (okM.mono o1 (by omega))
  have x1o:=x1.okd o1
  show Ax m (B0 1 s (nxM (dcM m))).2 _
  exact(a1.trans x1).mono (by omega)
 rw[if_neg h13]
 by_cases hbase:(!dp)=true
 .rw[if_pos hbase]
  have x1:=Fh (okM.mono o1 (by omega))
  have x1o:=x1.okd o1
  have x2:=EU 1 (okM.mono x1o (by omega))
  have x2o:=x2.okd x1o
  show Ax m (AV 1 (B7 (nxM (dcM m))).2).2 _
  exact((a1.trans x1).trans x2).mono (by omega)
 rw[if_neg hbase]
 by_cases hif:(nxV 2 (nxM (dcM m))==0)=true
 .rw[if_pos hif]
  by_cases hel:(stV B s m==0)=true
  .rw[if_pos hel]
   have x1:=C6 (okM.mono oK (by omega))
   have x1o:=x1.okd oK
   have x2:=Ie 1 (s:=s) (okM.mono x1o (by omega))
   have x2o:=x2.okd x1o
   have x3:=hB _ (okM.mono x2o (by omega))
   have x3o:=x3.okd x2o
   have x4:=C6 (okM.mono x3o (by omega))
   have x4o:=x4.okd x3o
   have x5:=hB _ (okM.mono x4o (by omega))
   have x5o:=x5.okd x4o
   show Ax m (B (nxM (B (B0 1 s (nxM (nxM (dcM m)))).2).2)).2 _
   exact(((((a1.trans x1).trans x2).trans x3).trans x4).trans x5).mono (by omega)
  rw[if_neg hel]
  have x1:=C6 (okM.mono oK (by omega))
  have x1o:=x1.okd oK
  have x2:=Ie 1 (s:=s) (okM.mono x1o (by omega))
  have x2o:=x2.okd x1o
  have x3:=hB _ (okM.mono x2o (by omega))
  have x3o:=x3.okd x2o
  have x4:=C6 (okM.mono x3o (by omega))
  have x4o:=x4.okd x3o
  show Ax m (nxM (B (B0 1 s (nxM (nxM (dcM m)))).2).2) _
  exact((((a1.trans x1).trans x2).trans x3).trans x4).mono (by omega)
 rw[if_neg hif]
 have x1:=C6 (okM.mono oK (by omega))
 have x1o:=x1.okd oK
 have x2:=Ie 1 (s:=s) (okM.mono x1o (by omega))
 have x2o:=x2.okd x1o
 have x3:=hB _ (okM.mono x2o (by omega))
 have x3o:=x3.okd x2o
 show Ax m (B (B0 1 s (nxM (nxM (dcM m)))).2).2 _
 exact(((a1.trans x1).trans x2).trans x3).mono (by omega)
theorem cW{dp:Bool}{B:Mk->T}{L:Nat}(hBl:∀q,(B q).1.length<=L)(s:Int)(m:Mk):(stB dp B s m).1.length<=400+2*L:=by
 unfold stB
 by_cases hn:decide ((dcM m).n<0)=true
 .rw[if_pos hn]
  have h1:=V3 (dcM m)
  simp only[jL3]
  omega
 rw[if_neg hn]
 by_cases h0:(decide (nxV 18 (dcM m)<3))=true
 .rw[if_pos h0]
  have y0:=Do (nxM (dcM m))
  have y1:=DF 2 (B7 (nxM (dcM m))).2
  simp only[Sr,jL3]
  omega
 rw[if_neg h0]
 by_cases h3:(nxV 18 (dcM m)==3)=true
 .rw[if_pos h3]
  have y0:=H5 s (nxM (dcM m))
  have y1:=cQ (nxV 2 (pvT s (nxM (dcM m))).2).toNat
  simp only[Yp,jL3]
  omega
 rw[if_neg h3]
 by_cases h4:(nxV 18 (dcM m)==4)=true
 .rw[if_pos h4]
  have y0:=H5 s (nxM (dcM m))
  have y1:=cR (nxV 2 (pvT s (nxM (dcM m))).2).toNat
  simp only[Yq,jL3]
  omega
 rw[if_neg h4]
 by_cases h5:(nxV 18 (dcM m)==5)=true
 .rw[if_pos h5]
  have y0:=Do (nxM (dcM m))
  have y1:=H5 s (B7 (nxM (dcM m))).2
  simp only[Yr,jL3]
  omega
 rw[if_neg h5]
 by_cases h6:(nxV 18 (dcM m)==6)=true
 .rw[if_pos h6]
  have y0:=H5 s (nxM (dcM m))
  have y1:=DF 1 (pvT s (nxM (dcM m))).2
  simp only[Ys,jL3]
  omega
 rw[if_neg h6]
 by_cases h7:(nxV 18 (dcM m)==7)=true
 .rw[if_pos h7]
  have y0:=Do (nxM (dcM m))
  have y1:=So (nxV 2 (B7 (nxM (dcM m))).2).toNat
  have y2:=DF 1 (nxM (B7 (nxM (dcM m))).2)
  simp only[Yt,jL3]
  omega
 rw[if_neg h7]
 by_cases h8:(nxV 18 (dcM m)==8)=true
 .rw[if_pos h8]
  have y0:=So (nxV 2 (nxM (dcM m))).toNat
  have y1:=DF 1 (nxM (nxM (dcM m)))
  have y2:=DF 1 (AV 1 (nxM (nxM (dcM m)))).2
  simp only[Yu,jL3]
  omega
 rw[if_neg h8]
 by_cases h9:(decide (nxV 18 (dcM m)<11))=true
 .rw[if_pos h9]
  have y1:=Do (nxM (nxM (dcM m)))
  have y2n:=S1 (nxV 4 (nxM (dcM m)))
  have y2:=PZ (nxV 4 (nxM (dcM m))) s (B7 (nxM (nxM (dcM m)))).2
  simp only[V5,jL3]
  omega
 rw[if_neg h9]
 by_cases h11:(nxV 18 (dcM m)==11)=true
 .rw[if_pos h11]
  have y1n:=S1 (nxV 4 (nxM (dcM m)))
  have y2:=PZ (IntKind.i64.wrap (nxV 4 (nxM (dcM m))+IntKind.i64.wrap ((nxV 9 (nxM (nxM (dcM m)))).tdiv 8))) s (nxM (nxM (nxM (dcM m))))
  simp only[V6,jL3]
  omega
 rw[if_neg h11]
 by_cases h12:(nxV 18 (dcM m)==12)=true
 .rw[if_pos h12]
  have y0:=DF 1 (nxM (dcM m))
  simp only[V7,jL3]
  omega
 rw[if_neg h12]
 by_cases h13:(nxV 18 (dcM m)==13)=true
 .rw[if_pos h13]
  have y0:=HU 1 s (nxM (dcM m))
  simp only[V8,jL3]
  omega
 rw[if_neg h13]
 by_cases hbase:(!dp)=true
 .rw[if_pos hbase]
  have y0:=Do (nxM (dcM m))
  have y1:=DF 1 (B7 (nxM (dcM m))).2
  simp only[Qh,jL3]
  omega
 rw[if_neg hbase]
 by_cases hif:(nxV 2 (nxM (dcM m))==0)=true
 .rw[if_pos hif]
  by_cases hel:(stV B s m==0)=true
  .rw[if_pos hel]
   have y1:=HU 1 s (nxM (nxM (dcM m)))
   have y2:=hBl (B0 1 s (nxM (nxM (dcM m)))).2
   have y4:=hBl (nxM (B (B0 1 s (nxM (nxM (dcM m)))).2).2)
   simp only[Qi,jL3]
   omega
  rw[if_neg hel]
  have y1:=HU 1 s (nxM (nxM (dcM m)))
  have y2:=hBl (B0 1 s (nxM (nxM (dcM m)))).2
  simp only[V9,jL3]
  omega
 rw[if_neg hif]
 have y1:=HU 1 s (nxM (nxM (dcM m)))
 have y2:=hBl (B0 1 s (nxM (nxM (dcM m)))).2
 simp only[Oi,jL3]
 omega
def stC:Nat->Int
 |0=>60
 |k+1=>60+2*(1+3*stC k)
def stL:Nat->Nat
 |0=>400
 |k+1=>400+2*(4+3*stL k)
theorem S2:∀k,60<=stC k
 |0=>Int.le_refl _
 |k+1=>by have:=S2 k;simp only[stC];omega
theorem VB:∀k,k<=3->stL k<=200000
 |0,_=>by decide
 |1,_=>by decide
 |2,_=>by decide
 |3,_=>by decide
theorem VC:∀(k:Nat) {s:Int} {m:Mk},okM m (stC k)->Ax m (stT k s m).2 (stC k)
 |0,s,m,h=>(iC (K:=0) (Int.le_refl _) (λq _=>Ax.refl q) (h.mono (by decide))).mono (by decide)
 |k+1,s,m,h=>by
  have h1:=S2 k
  simp only[stC]at h ⊢
  exact iC (K:=1+3*stC k) (by omega) (λq hq=>iB (by omega) (λr hr=>VC k hr) q hq) h
theorem Pb:∀(k:Nat) (s:Int) (m:Mk),(stT k s m).1.length<=stL k
 |0,s,m=>cW (L:=0) (λq=>Nat.le_refl _) s m
 |k+1,s,m=>cW (L:=4+3*stL k) (λq=>cV (λr=>Pb k s r) q) s m
abbrev mL(n:Nat)(m:Mk)(s:Int)(d:Int):Prop:=okM m (stC d.toNat)/\0<=d/\d<(n:Int)/\d<=3
abbrev E8(n:Nat)(m:Mk)(s:Int)(d:Int):SV:=.one (.v (.string (bs (stT d.toNat s m).1)))
abbrev E9(n:Nat)(m:Mk)(s:Int)(d:Int):List (Option MV):=[some (zMk,[(stT d.toNat s m).2.c])]
noncomputable abbrev La:ArgM ((Mk)×(Int)×(Int)×Unit):=(amP (mMk) (amD (cInt .i64) (amD (cInt .i64) am0)))
abbrev Np(n:Nat):Prop:=Bv Tryz.prog 70 ((La).args 0) (La).mem (λp:(Mk)×(Int)×(Int)×Unit=>mL n p.1 p.2.1 p.2.2.1) (λp:(Mk)×(Int)×(Int)×Unit=>E8 n p.1 p.2.1 p.2.2.1) (λp:(Mk)×(Int)×(Int)×Unit=>E9 n p.1 p.2.1 p.2.2.1)
noncomputable def Eg{X:Ctx}{w0:World}(n:Nat)(h:Np n):Sy.Spec Tryz.prog X w0:=Cl 70 Tryz.call70 (La) _ _ _ KF1 KF0 KF6 h
abbrev iE(n:Nat)(m:Mk)(s:Int)(d:Int):Prop:=okM m (1+3*stC (d-1).toNat)/\1<=d/\d-1<(n:Int)/\d<=3
abbrev S3(n:Nat)(m:Mk)(s:Int)(d:Int):SV:=.one (.v (.string (bs (IA (stT (d-1).toNat s) m).1)))
abbrev S4(n:Nat)(m:Mk)(s:Int)(d:Int):List (Option MV):=[some (zMk,[(IA (stT (d-1).toNat s) m).2.c])]
noncomputable abbrev Ki:ArgM ((Mk)×(Int)×(Int)×Unit):=(amP (mMk) (amD (cInt .i64) (amD (cInt .i64) am0)))
abbrev YA(n:Nat):Prop:=Bv Tryz.prog 86 ((Ki).args 0) (Ki).mem (λp:(Mk)×(Int)×(Int)×Unit=>iE n p.1 p.2.1 p.2.2.1) (λp:(Mk)×(Int)×(Int)×Unit=>S3 n p.1 p.2.1 p.2.2.1) (λp:(Mk)×(Int)×(Int)×Unit=>S4 n p.1 p.2.1 p.2.2.1)
noncomputable def YB{X:Ctx}{w0:World}(n:Nat)(h:YA n):Sy.Spec Tryz.prog X w0:=Cl 86 Tryz.call86 (Ki) _ _ _ KF1 KF0 KF6 h
attribute [local go_sem] Mk.c zBy
theorem mM(n:Nat)(hu:Np n):YA n:=by
 rintro ⟨m,s,d,_u⟩ w M I lab fz xs hc hA hl hx
 refine Aa Tryz.func86 rfl ((Ki).mem ⟨m,s,d,_u⟩) w M I lab fz [CK,(Eg n hu)] [] ((Ki).args 0 ⟨m,s,d,_u⟩) ((λp:(Mk)×(Int)×(Int)×Unit=>S4 n p.1 p.2.1 p.2.2.1) ⟨m,s,d,_u⟩) ((λp:(Mk)×(Int)×(Int)×Unit=>S3 n p.1 p.2.1 p.2.2.1) ⟨m,s,d,_u⟩) xs hA hl hx (λv hv k hk=>by have:=(Ki).an 0 ⟨m,s,d,_u⟩ v hv k hk;omega) (jN rfl) (jN rfl) ?_
 clear hx hl hA xs
 simp only[Tryz.f86]
 obtain⟨o0,g0,g1,g2⟩:=hc
 dsimp only at o0 g0 g1 g2
 obtain⟨d',hd'⟩:∃d':Int,d'=d-1:=⟨_,rfl⟩
 have hdw:IntKind.i64.wrap (d-1)=d':=by rw[hd'];exact wrap_i64 (by omega) (by omega)
 obtain⟨k,hk⟩:∃k:Nat,(d-1).toNat=k:=⟨_,rfl⟩
 have hk':d'.toNat=k:=by rw[hd'];exact hk
 rw[hk]at o0
 have p0:0<=d':=by omega
 have p1:d'<(n:Int):=by omega
 have p2:d'<=3:=by omega
 have hk3:k<=3:=by omega
 have c0:=S2 k
 have hL:=VB k hk3
 have a1:=C6 (okM.mono o0 (by omega))
 have o1:okM (nxM m) (3*stC k):=a1.ok o0
 have hv:=E0 (j:=4) o0 (by decide)
 obtain⟨c,hc⟩:∃c:Nat,nxV 4 m=(c:Int):=⟨_,(Int.toNat_of_nonneg hv.1).symm⟩
 have hc3:c<=3:=by omega
 have hct:(nxV 4 m).toNat=c:=by omega
 have hr:IA (stT k s) m=((Ho (stT k s) c [123,32] (nxM m)).1++[125,32],(Ho (stT k s) c [123,32] (nxM m)).2):=by unfold IA;rw[hct]
 simp only[seval,go_sem,CK,L4,E4,Ib,Hl,KM,Nk,G8,Eg,Gt,Gs,Gu,FY,Pa,F3,Fm,Fo,Fp,Fq,Fs,Ft,Fv,Fw,Fx,tn0,tn1,tn2,hc]
 refine⟨⟨okM.mono o0 (by omega),by decide⟩,?_⟩
 refine AK (Y:=Nat×List UInt8×Mk) (λy=>y.1<=3/\okM y.2.2 (bc (stC k) y.1)/\y.2.1.length+bn (stL k) y.1<=3*stL k+2/\Ho (stT k s) y.1 y.2.1 y.2.2=Ho (stT k s) c [123,32] (nxM m))
  (λy=>⟨[(0,true,.one (.p 0 0 0)),(1,true,.one (.v (.int .i64 s))),(2,true,.one (.v (.int .i64 d))),(7,true,.one (.v (.string (bs y.2.1)))),(8,true,.one (.v (.int .i64 (y.1:Int))))],[(0,.vec 0 zMk [y.2.2.c])]⟩)
  (λy=>y.1) (c,[123,32],nxM m) ⟨hc3,okM.mono o1 (qC (by omega) c hc3),by have:=qD (c:=stL k) c hc3;simp only[length_cons,length_nil];omega,rfl⟩ ?_ ?_
 .refine A4 [] ?_;simp only[seval,go_sem]
 rintro ⟨j,acc,q⟩ ⟨h1,h2,h3,h4⟩
 refine AZ [CK,Eg n hu] [] _ _ _ ?_
 dsimp only at h1 h2 h3 h4
 cases j with
 |zero=>
  simp only[Ho]at h4
  rw[<- h4]at hr
  have e0:decide ((0:Int)<((0:Nat):Int))=false:=rfl
  simp only[seval,go_sem,CK,L4,E4,Ib,Hl,KM,Nk,G8,Eg,Gt,Gs,Gu,FY,Pa,F3,Fm,Fo,Fp,Fq,Fs,Ft,Fv,Fw,Fx,tn0,tn1,tn2,e0]
  try simp only[A2,A3]
  repeat' first|exact ck|with_reducible apply And.intro|intro _
  all_goals first|(simp only[bn,length_cons,length_nil]at *;omega)|exact KZ|(refine A1 [] ?_;simp only[seval,go_sem,bne,S3,S4,hk,hr,Gt,Gs,Gu,FY,Pa,F3,Fm,Fo,Fp,Fq,Fs,Ft,Fv,Fw,Fx,tn0,tn1,tn2])
 |succ j=>
 simp only[Ho,bc,bn]at h2 h3 h4
 have e0:decide ((0:Int)<((j+1:Nat):Int))=true:=decide_eq_true (by omega)
 have e1:IntKind.i64.wrap (((j+1:Nat):Int)-1)=(j:Int):=by rw[wrap_i64 (by omega) (by omega)];omega
 have hb0:=VA (c:=stC k) (by omega) j
 have oq:okM q (stC k):=okM.mono h2 (by omega)
 have a2:=VC k (s:=s) oq
 have l2:=Pb k s q
 simp only[seval,go_sem,CK,L4,E4,Ib,Hl,KM,Nk,G8,Eg,Gt,Gs,Gu,FY,Pa,F3,Fm,Fo,Fp,Fq,Fs,Ft,Fv,Fw,Fx,tn0,tn1,tn2,e0,e1,hdw,hk']
 try simp only[A2,A3]
 repeat' first|exact ck|with_reducible apply And.intro|intro _
 all_goals try first|(rw[hk'];exact oq)|exact oq|exact p0|exact p1|exact p2|(omega)|exact KZ
 refine⟨(j,acc++(stT k s q).1,(stT k s q).2),⟨by omega,a2.ok h2,by simp only[length_append];omega,h4⟩,Nat.lt_succ_self _,A4 [] ?_⟩
 simp only[seval,go_sem]
attribute[local go_sem] Fq Fp Pa Fv Fw Fm Gu Gt Gs FY Fx Fs F3 Fo tn0 tn1 tn2 Ft YB KM Hl G8 E4 Nk CK L4 Ib in
theorem mN(n:Nat)(hu:Np n):Np (n+1):=by
 rintro ⟨m,s,d,_u⟩ w M I lab fz xs hc hA hl hx
 refine Aa Tryz.func70 rfl ((La).mem ⟨m,s,d,_u⟩) w M I lab fz [CK,L4,E4,Ib,(Hl 3 (V4 3)),(KM 2 (cU 2)),Nk,G8,(YB n (mM n hu))] [] ((La).args 0 ⟨m,s,d,_u⟩) ((λp:(Mk)×(Int)×(Int)×Unit=>E9 (n+1) p.1 p.2.1 p.2.2.1) ⟨m,s,d,_u⟩) ((λp:(Mk)×(Int)×(Int)×Unit=>E8 (n+1) p.1 p.2.1 p.2.2.1) ⟨m,s,d,_u⟩) xs hA hl hx (λv hv k hk=>by have:=(La).an 0 ⟨m,s,d,_u⟩ v hv k hk;omega) (jN rfl) (jN rfl) ?_
 clear hx hl hA xs
 simp only[Tryz.f70]
 obtain⟨oS,g0,g1,g2⟩:=hc
 dsimp only at oS g0 g1 g2
 have c9:=S2 d.toNat
 have oD:okM (dcM m) (stC d.toNat):=qB oS
 obtain⟨dp,B,hS⟩:∃dp B,stT d.toNat s m=stB dp B s m:=by cases d.toNat<;>exact⟨_,_,rfl⟩
 have e90:=Pa m
 cases eN:decide (IntKind.i64.wrap (m.n-1)<0) with
 |true=>
  have hn:decide ((dcM m).n<0)=true:=eN
  have y0:=V3 (dcM m)
  have hr:stT d.toNat s m=(([114,101,116,117,114,110,32]++(nuT (dcM m)).1)++[59,32],(nuT (dcM m)).2):=by rw[hS];unfold stB;rw[if_pos hn]
  simp only[seval,go_sem,eN]
  try simp only[A2,A3]
  repeat' first|exact ck|with_reducible apply And.intro|intro _
  all_goals first|exact okM.mono oD (by omega)|(simp only[jL3]at *;omega)|exact KZ|(refine A1 [] ?_;simp only[seval,go_sem,bne,E8,E9,hr])
 |false=>
 have hn:¬decide ((dcM m).n<0)=true:=by rw[show decide ((dcM m).n<0)=false from eN];decide
 have a1:=C6 (okM.mono oD (by omega))
 have o1:okM (nxM (dcM m)) 59:=a1.ok (okM.mono oD (by omega))
 have hv:=E0 (j:=18) oD (by decide)
 cases e0:(nxV 18 (dcM m)==0) with
 |true=>
  have y0:=Do (nxM (dcM m))
  have x1:=Fh (okM.mono o1 (by omega))
  have x1o:=x1.okd o1
  have y1:=DF 2 (B7 (nxM (dcM m))).2
  have x2:=EU 2 (okM.mono x1o (by omega))
  have x2o:=x2.okd x1o
  have h0:(decide (nxV 18 (dcM m)<3))=true:=decide_eq_true (by have:=eq_of_beq e0;omega)
  have hr:stT d.toNat s m=Sr B s m:=by rw[hS];unfold stB;rw[if_neg hn,if_pos h0]
  simp only[seval,go_sem,eN,e0]
  try simp only[A2,A3]
  try exact mK
 |false=>
 cases e1:(nxV 18 (dcM m)==1) with
 |true=>
  have y0:=Do (nxM (dcM m))
  have x1:=Fh (okM.mono o1 (by omega))
  have x1o:=x1.okd o1
  have y1:=DF 2 (B7 (nxM (dcM m))).2
  have x2:=EU 2 (okM.mono x1o (by omega))
  have x2o:=x2.okd x1o
  have h0:(decide (nxV 18 (dcM m)<3))=true:=decide_eq_true (by have:=eq_of_beq e1;omega)
  have hr:stT d.toNat s m=Sr B s m:=by rw[hS];unfold stB;rw[if_neg hn,if_pos h0]
  simp only[seval,go_sem,eN,e0,e1]
  try simp only[A2,A3]
  try exact mK
 |false=>
 cases e2:(nxV 18 (dcM m)==2) with
 |true=>
  have y0:=Do (nxM (dcM m))
  have x1:=Fh (okM.mono o1 (by omega))
  have x1o:=x1.okd o1
  have y1:=DF 2 (B7 (nxM (dcM m))).2
  have x2:=EU 2 (okM.mono x1o (by omega))
  have x2o:=x2.okd x1o
  have h0:(decide (nxV 18 (dcM m)<3))=true:=decide_eq_true (by have:=eq_of_beq e2;omega)
  have hr:stT d.toNat s m=Sr B s m:=by rw[hS];unfold stB;rw[if_neg hn,if_pos h0]
  simp only[seval,go_sem,eN,e0,e1,e2]
  try simp only[A2,A3]
  try exact mK
 |false=>
 have h0:¬(decide (nxV 18 (dcM m)<3))=true:=by have n0:nxV 18 (dcM m)≠0:=(by simpa using e0);have n1:nxV 18 (dcM m)≠1:=(by simpa using e1);have n2:nxV 18 (dcM m)≠2:=(by simpa using e2);simp only[decide_eq_true_eq];omega
 cases e3:(nxV 18 (dcM m)==3) with
 |true=>
  have y0:=H5 s (nxM (dcM m))
  have x1:=Jf (s:=s) (okM.mono o1 (by omega))
  have x1o:=x1.okd o1
  have y1:=cQ (nxV 2 (pvT s (nxM (dcM m))).2).toNat
  have z1:=E0 (j:=2) x1o (by decide)
  have x2:=C6 (okM.mono x1o (by omega))
  have x2o:=x2.okd x1o
  have h3:(nxV 18 (dcM m)==3)=true:=e3
  have hr:stT d.toNat s m=Yp B s m:=by rw[hS];unfold stB;rw[if_neg hn,if_neg h0,if_pos h3]
  simp only[seval,go_sem,eN,e0,e1,e2,e3]
  try simp only[A2,A3]
  repeat' first|exact ck|with_reducible apply And.intro|intro _
  all_goals first|(refine okM.mono (by assumption) ?_;omega)|exact z1|exact g0|exact g1|exact g2|(omega)|(simp only[jL3]at *;omega)|exact KZ|(refine A1 [] ?_;simp only[seval,go_sem,bne,E8,E9,hr,Yp])
 |false=>
 have h3:¬(nxV 18 (dcM m)==3)=true:=by rw[e3];decide
 cases e4:(nxV 18 (dcM m)==4) with
 |true=>
  have y0:=H5 s (nxM (dcM m))
  have x1:=Jf (s:=s) (okM.mono o1 (by omega))
  have x1o:=x1.okd o1
  have y1:=cR (nxV 2 (pvT s (nxM (dcM m))).2).toNat
  have z1:=E0 (j:=2) x1o (by decide)
  have x2:=C6 (okM.mono x1o (by omega))
  have x2o:=x2.okd x1o
  have h4:(nxV 18 (dcM m)==4)=true:=e4
  have hr:stT d.toNat s m=Yq B s m:=by rw[hS];unfold stB;rw[if_neg hn,if_neg h0,if_neg h3,if_pos h4]
  simp only[seval,go_sem,eN,e0,e1,e2,e3,e4]
  try simp only[A2,A3]
  repeat' first|exact ck|with_reducible apply And.intro|intro _
  all_goals first|(refine okM.mono (by assumption) ?_;omega)|exact z1|exact g0|exact g1|exact g2|(omega)|(simp only[jL3]at *;omega)|exact KZ|(refine A1 [] ?_;simp only[seval,go_sem,bne,E8,E9,hr,Yq])
 |false=>
 have h4:¬(nxV 18 (dcM m)==4)=true:=by rw[e4];decide
 cases e5:(nxV 18 (dcM m)==5) with
 |true=>
  have y0:=Do (nxM (dcM m))
  have x1:=Fh (okM.mono o1 (by omega))
  have x1o:=x1.okd o1
  have y1:=H5 s (B7 (nxM (dcM m))).2
  have x2:=Jf (s:=s) (okM.mono x1o (by omega))
  have x2o:=x2.okd x1o
  have h5:(nxV 18 (dcM m)==5)=true:=e5
  have hr:stT d.toNat s m=Yr B s m:=by rw[hS];unfold stB;rw[if_neg hn,if_neg h0,if_neg h3,if_neg h4,if_pos h5]
  simp only[seval,go_sem,eN,e0,e1,e2,e3,e4,e5]
  try simp only[A2,A3]
  repeat' first|exact ck|with_reducible apply And.intro|intro _
  all_goals first|(refine okM.mono (by assumption) ?_;omega)|exact g0|exact g1|exact g2|(omega)|(simp only[jL3]at *;omega)|exact KZ|(refine A1 [] ?_;simp only[seval,go_sem,bne,E8,E9,hr,Yr])
 |false=>
 have h5:¬(nxV 18 (dcM m)==5)=true:=by rw[e5];decide
 cases e6:(nxV 18 (dcM m)==6) with
 |true=>
  have y0:=H5 s (nxM (dcM m))
  have x1:=Jf (s:=s) (okM.mono o1 (by omega))
  have x1o:=x1.okd o1
  have y1:=DF 1 (pvT s (nxM (dcM m))).2
  have x2:=EU 1 (okM.mono x1o (by omega))
  have x2o:=x2.okd x1o
  have h6:(nxV 18 (dcM m)==6)=true:=e6
  have hr:stT d.toNat s m=Ys B s m:=by rw[hS];unfold stB;rw[if_neg hn,if_neg h0,if_neg h3,if_neg h4,if_neg h5,if_pos h6]
  simp only[seval,go_sem,eN,e0,e1,e2,e3,e4,e5,e6]
  try simp only[A2,A3]
  repeat' first|exact ck|with_reducible apply And.intro|intro _
  all_goals first|(refine okM.mono (by assumption) ?_;omega)|exact g0|exact g1|exact g2|(omega)|(simp only[jL3]at *;omega)|exact KZ|(refine A1 [] ?_;simp only[seval,go_sem,bne,E8,E9,hr,Ys])
 |false=>
 have h6:¬(nxV 18 (dcM m)==6)=true:=by rw[e6];decide
 cases e7:(nxV 18 (dcM m)==7) with
 |true=>
  have y0:=Do (nxM (dcM m))
  have x1:=Fh (okM.mono o1 (by omega))
  have x1o:=x1.okd o1
  have y1:=So (nxV 2 (B7 (nxM (dcM m))).2).toNat
  have z1:=E0 (j:=2) x1o (by decide)
  have x2:=C6 (okM.mono x1o (by omega))
  have x2o:=x2.okd x1o
  have y2:=DF 1 (nxM (B7 (nxM (dcM m))).2)
  have x3:=EU 1 (okM.mono x2o (by omega))
  have x3o:=x3.okd x2o
  have h7:(nxV 18 (dcM m)==7)=true:=e7
  have hr:stT d.toNat s m=Yt B s m:=by rw[hS];unfold stB;rw[if_neg hn,if_neg h0,if_neg h3,if_neg h4,if_neg h5,if_neg h6,if_pos h7]
  simp only[seval,go_sem,eN,e0,e1,e2,e3,e4,e5,e6,e7]
  try simp only[A2,A3]
  repeat' first|exact ck|with_reducible apply And.intro|intro _
  all_goals first|(refine okM.mono (by assumption) ?_;omega)|exact z1|exact g0|exact g1|exact g2|(omega)|(simp only[jL3]at *;omega)|exact KZ|(refine A1 [] ?_;simp only[seval,go_sem,bne,E8,E9,hr,Yt])
 |false=>
 have h7:¬(nxV 18 (dcM m)==7)=true:=by rw[e7];decide
 cases e8:(nxV 18 (dcM m)==8) with
 |true=>
  have y0:=So (nxV 2 (nxM (dcM m))).toNat
  have z0:=E0 (j:=2) o1 (by decide)
  have x1:=C6 (okM.mono o1 (by omega))
  have x1o:=x1.okd o1
  have y1:=DF 1 (nxM (nxM (dcM m)))
  have x2:=EU 1 (okM.mono x1o (by omega))
  have x2o:=x2.okd x1o
  have y2:=DF 1 (AV 1 (nxM (nxM (dcM m)))).2
  have x3:=EU 1 (okM.mono x2o (by omega))
  have x3o:=x3.okd x2o
  have h8:(nxV 18 (dcM m)==8)=true:=e8
  have hr:stT d.toNat s m=Yu B s m:=by rw[hS];unfold stB;rw[if_neg hn,if_neg h0,if_neg h3,if_neg h4,if_neg h5,if_neg h6,if_neg h7,if_pos h8]
  simp only[seval,go_sem,eN,e0,e1,e2,e3,e4,e5,e6,e7,e8]
  try simp only[A2,A3]
  repeat' first|exact ck|with_reducible apply And.intro|intro _
  all_goals first|(refine okM.mono (by assumption) ?_;omega)|exact z0|exact g0|exact g1|exact g2|(omega)|(simp only[jL3]at *;omega)|exact KZ|(refine A1 [] ?_;simp only[seval,go_sem,bne,E8,E9,hr,Yu])
 |false=>
 have h8:¬(nxV 18 (dcM m)==8)=true:=by rw[e8];decide
 cases e9:(nxV 18 (dcM m)==9) with
 |true=>
  have z0:=E0 (j:=4) o1 (by decide)
  have x1:=C6 (okM.mono o1 (by omega))
  have x1o:=x1.okd o1
  have y1:=Do (nxM (nxM (dcM m)))
  have x2:=Fh (okM.mono x1o (by omega))
  have x2o:=x2.okd x1o
  have y2n:=S1 (nxV 4 (nxM (dcM m)))
  have y2:=PZ (nxV 4 (nxM (dcM m))) s (B7 (nxM (nxM (dcM m)))).2
  have x3:=S0 (t:=nxV 4 (nxM (dcM m))) (s:=s) (okM.mono x2o (by omega))
  have x3o:=x3.okd x2o
  have h9:(decide (nxV 18 (dcM m)<11))=true:=decide_eq_true (by have:=eq_of_beq e9;omega)
  have hr:stT d.toNat s m=V5 B s m:=by rw[hS];unfold stB;rw[if_neg hn,if_neg h0,if_neg h3,if_neg h4,if_neg h5,if_neg h6,if_neg h7,if_neg h8,if_pos h9]
  simp only[seval,go_sem,eN,e0,e1,e2,e3,e4,e5,e6,e7,e8,e9]
  try simp only[A2,A3]
  try exact xh
 |false=>
 cases e10:(nxV 18 (dcM m)==10) with
 |true=>
  have z0:=E0 (j:=4) o1 (by decide)
  have x1:=C6 (okM.mono o1 (by omega))
  have x1o:=x1.okd o1
  have y1:=Do (nxM (nxM (dcM m)))
  have x2:=Fh (okM.mono x1o (by omega))
  have x2o:=x2.okd x1o
  have y2n:=S1 (nxV 4 (nxM (dcM m)))
  have y2:=PZ (nxV 4 (nxM (dcM m))) s (B7 (nxM (nxM (dcM m)))).2
  have x3:=S0 (t:=nxV 4 (nxM (dcM m))) (s:=s) (okM.mono x2o (by omega))
  have x3o:=x3.okd x2o
  have h9:(decide (nxV 18 (dcM m)<11))=true:=decide_eq_true (by have:=eq_of_beq e10;omega)
  have hr:stT d.toNat s m=V5 B s m:=by rw[hS];unfold stB;rw[if_neg hn,if_neg h0,if_neg h3,if_neg h4,if_neg h5,if_neg h6,if_neg h7,if_neg h8,if_pos h9]
  simp only[seval,go_sem,eN,e0,e1,e2,e3,e4,e5,e6,e7,e8,e9,e10]
  try simp only[A2,A3]
  try exact xh
 |false=>
 have h9:¬(decide (nxV 18 (dcM m)<11))=true:=by have k0:¬(nxV 18 (dcM m)<3):=(by simpa using h0);have n3:nxV 18 (dcM m)≠3:=(by simpa using e3);have n4:nxV 18 (dcM m)≠4:=(by simpa using e4);have n5:nxV 18 (dcM m)≠5:=(by simpa using e5);have n6:nxV 18 (dcM m)≠6:=(by simpa using e6);have n7:nxV 18 (dcM m)≠7:=(by simpa using e7);have n8:nxV 18 (dcM m)≠8:=(by simpa using e8);have n9:nxV 18 (dcM m)≠9:=(by simpa using e9);have n10:nxV 18 (dcM m)≠10:=(by simpa using e10);simp only[decide_eq_true_eq];omega
 cases e11:(nxV 18 (dcM m)==11) with
 |true=>
  have z0:=E0 (j:=4) o1 (by decide)
  have x1:=C6 (okM.mono o1 (by omega))
  have x1o:=x1.okd o1
  have y1n:=S1 (nxV 4 (nxM (dcM m)))
  have z1:=E0 (j:=9) x1o (by decide)
  have x2:=C6 (okM.mono x1o (by omega))
  have x2o:=x2.okd x1o
  have y2:=PZ (IntKind.i64.wrap (nxV 4 (nxM (dcM m))+IntKind.i64.wrap ((nxV 9 (nxM (nxM (dcM m)))).tdiv 8))) s (nxM (nxM (nxM (dcM m))))
  have x3:=S0 (t:=IntKind.i64.wrap (nxV 4 (nxM (dcM m))+IntKind.i64.wrap ((nxV 9 (nxM (nxM (dcM m)))).tdiv 8))) (s:=s) (okM.mono x2o (by omega))
  have x3o:=x3.okd x2o
  have h11:(nxV 18 (dcM m)==11)=true:=e11
  have hr:stT d.toNat s m=V6 B s m:=by rw[hS];unfold stB;rw[if_neg hn,if_neg h0,if_neg h3,if_neg h4,if_neg h5,if_neg h6,if_neg h7,if_neg h8,if_neg h9,if_pos h11]
  simp only[seval,go_sem,eN,e0,e1,e2,e3,e4,e5,e6,e7,e8,e9,e10,e11]
  try simp only[A2,A3]
  repeat' first|exact ck|with_reducible apply And.intro|intro _
  all_goals first|(refine okM.mono (by assumption) ?_;omega)|exact z0|exact z0.1|exact z1|exact z1.1|exact g0|exact g1|exact g2|(omega)|(simp only[jL3]at *;omega)|exact KZ|(refine A1 [] ?_;simp only[seval,go_sem,bne,E8,E9,hr,V6])
 |false=>
 have h11:¬(nxV 18 (dcM m)==11)=true:=by rw[e11];decide
 cases e12:(nxV 18 (dcM m)==12) with
 |true=>
  have y0:=DF 1 (nxM (dcM m))
  have x1:=EU 1 (okM.mono o1 (by omega))
  have x1o:=x1.okd o1
  have h12:(nxV 18 (dcM m)==12)=true:=e12
  have hr:stT d.toNat s m=V7 B s m:=by rw[hS];unfold stB;rw[if_neg hn,if_neg h0,if_neg h3,if_neg h4,if_neg h5,if_neg h6,if_neg h7,if_neg h8,if_neg h9,if_neg h11,if_pos h12]
  simp only[seval,go_sem,eN,e0,e1,e2,e3,e4,e5,e6,e7,e8,e9,e10,e11,e12]
  try simp only[A2,A3]
  repeat' first|exact ck|with_reducible apply And.intro|intro _
  all_goals first|(refine okM.mono (by assumption) ?_;omega)|exact g0|exact g1|exact g2|(omega)|(simp only[jL3]at *;omega)|exact KZ|(refine A1 [] ?_;simp only[seval,go_sem,bne,E8,E9,hr,V7])
 |false=>
 have h12:¬(nxV 18 (dcM m)==12)=true:=by rw[e12];decide
 cases e13:(nxV 18 (dcM m)==13) with
 |true=>
  have y0:=HU 1 s (nxM (dcM m))
  have x1:=Ie 1 (s:=s) (okM.mono o1 (by omega))
  have x1o:=x1.okd o1
  have h13:(nxV 18 (dcM m)==13)=true:=e13
  have hr:stT d.toNat s m=V8 B s m:=by rw[hS];unfold stB;rw[if_neg hn,if_neg h0,if_neg h3,if_neg h4,if_neg h5,if_neg h6,if_neg h7,if_neg h8,if_neg h9,if_neg h11,if_neg h12,if_pos h13]
  simp only[seval,go_sem,eN,e0,e1,e2,e3,e4,e5,e6,e7,e8,e9,e10,e11,e12,e13]
  try simp only[A2,A3]
  repeat' first|exact ck|with_reducible apply And.intro|intro _
  all_goals first|(refine okM.mono (by assumption) ?_;omega)|exact g0|exact g1|exact g2|(omega)|(simp only[jL3]at *;omega)|exact KZ|(refine A1 [] ?_;simp only[seval,go_sem,bne,E8,E9,hr,V8])
 |false=>
 have h13:¬(nxV 18 (dcM m)==13)=true:=by rw[e13];decide
 cases hd0:decide (d<=0) with
 |true=>
  have hz:d.toNat=0:=by have:=of_decide_eq_true hd0;omega
  have hS0:stT d.toNat s m=stB false (λm=>([],m)) s m:=by rw[hz];rfl
  have y0:=Do (nxM (dcM m))
  have x1:=Fh (okM.mono o1 (by omega))
  have x1o:=x1.okd o1
  have y1:=DF 1 (B7 (nxM (dcM m))).2
  have x2:=EU 1 (okM.mono x1o (by omega))
  have x2o:=x2.okd x1o
  have hr:stT d.toNat s m=Qh (λm=>([],m)) s m:=by rw[hS0];unfold stB;rw[if_neg hn,if_neg h0,if_neg h3,if_neg h4,if_neg h5,if_neg h6,if_neg h7,if_neg h8,if_neg h9,if_neg h11,if_neg h12,if_neg h13,if_pos (show (!false)=true from rfl)]
  simp only[seval,go_sem,eN,e0,e1,e2,e3,e4,e5,e6,e7,e8,e9,e10,e11,e12,e13,hd0]
  try simp only[A2,A3]
  repeat' first|exact ck|with_reducible apply And.intro|intro _
  all_goals first|(refine okM.mono (by assumption) ?_;omega)|exact g0|exact g1|exact g2|(omega)|(simp only[jL3]at *;omega)|exact KZ|(refine A1 [] ?_;simp only[seval,go_sem,bne,E8,E9,hr,Qh])
 |false=>
 have hz:d.toNat=(d-1).toNat+1:=by have:=of_decide_eq_false hd0;omega
 have hS1:stT d.toNat s m=stB true (IA (stT (d-1).toNat s)) s m:=by rw[hz];rfl
 obtain⟨K,hK⟩:∃K:Int,K=1+3*stC (d-1).toNat:=⟨_,rfl⟩
 have c8:=S2 (d-1).toNat
 have hL:=VB (d-1).toNat (by omega)
 have g3:1<=d:=by have:=of_decide_eq_false hd0;omega
 have g4:d-1<(n:Int):=by omega
 have hC:stC d.toNat=60+2*K:=by rw[hz,hK];rfl
 have oK:okM (nxM (dcM m)) (59+2*K):=a1.ok (okM.mono oD (by omega))
 have hB:∀q,okM q K->Ax q ((IA (stT (d-1).toNat s)) q).2 K:=by rw[hK];exact λq hq=>iB (by omega) (λr hr=>VC _ hr) q hq
 have hBl:∀q,((IA (stT (d-1).toNat s)) q).1.length<=4+3*stL (d-1).toNat:=λq=>cV (λr=>Pb _ s r) q
 have hdp:¬(!true)=true:=by decide
 cases ei:(nxV 2 (nxM (dcM m))==0) with
 |true=>
  cases ee:(nxV 2 ((IA (stT (d-1).toNat s)) (B0 1 s (nxM (nxM (dcM m)))).2).2==0) with
  |true=>
   have hel:(stV (IA (stT (d-1).toNat s)) s m==0)=true:=ee
   have z0:=E0 (j:=2) oK (by decide)
   have x1:=C6 (okM.mono oK (by omega))
   have x1o:=x1.okd oK
   have y1:=HU 1 s (nxM (nxM (dcM m)))
   have x2:=Ie 1 (s:=s) (okM.mono x1o (by omega))
   have x2o:=x2.okd x1o
   have y2:=hBl (B0 1 s (nxM (nxM (dcM m)))).2
   have x3:=hB _ (okM.mono x2o (by omega))
   have x3o:=x3.okd x2o
   have z3:=E0 (j:=2) x3o (by decide)
   have x4:=C6 (okM.mono x3o (by omega))
   have x4o:=x4.okd x3o
   have y4:=hBl (nxM ((IA (stT (d-1).toNat s)) (B0 1 s (nxM (nxM (dcM m)))).2).2)
   have x5:=hB _ (okM.mono x4o (by omega))
   have x5o:=x5.okd x4o
   have hr:stT d.toNat s m=Qi (IA (stT (d-1).toNat s)) s m:=by rw[hS1];unfold stB;rw[if_neg hn,if_neg h0,if_neg h3,if_neg h4,if_neg h5,if_neg h6,if_neg h7,if_neg h8,if_neg h9,if_neg h11,if_neg h12,if_neg h13,if_neg hdp,if_pos ei,if_pos hel]
   simp only[seval,go_sem,eN,e0,e1,e2,e3,e4,e5,e6,e7,e8,e9,e10,e11,e12,e13,hd0,ei,ee]
   try simp only[A2,A3]
   repeat' first|exact ck|with_reducible apply And.intro|intro _
   all_goals first|(refine okM.mono (by assumption) ?_;omega)|exact z0|exact z0.1|exact z3|exact z3.1|exact g0|exact g1|exact g2|(omega)|(simp only[jL3]at *;omega)|exact KZ|(refine A1 [] ?_;simp only[seval,go_sem,bne,E8,E9,hr,Qi])
  |false=>
  have hel:¬(stV (IA (stT (d-1).toNat s)) s m==0)=true:=by rw[show (stV (IA (stT (d-1).toNat s)) s m==0)=false from ee];decide
  have z0:=E0 (j:=2) oK (by decide)
  have x1:=C6 (okM.mono oK (by omega))
  have x1o:=x1.okd oK
  have y1:=HU 1 s (nxM (nxM (dcM m)))
  have x2:=Ie 1 (s:=s) (okM.mono x1o (by omega))
  have x2o:=x2.okd x1o
  have y2:=hBl (B0 1 s (nxM (nxM (dcM m)))).2
  have x3:=hB _ (okM.mono x2o (by omega))
  have x3o:=x3.okd x2o
  have z3:=E0 (j:=2) x3o (by decide)
  have x4:=C6 (okM.mono x3o (by omega))
  have x4o:=x4.okd x3o
  have hr:stT d.toNat s m=V9 (IA (stT (d-1).toNat s)) s m:=by rw[hS1];unfold stB;rw[if_neg hn,if_neg h0,if_neg h3,if_neg h4,if_neg h5,if_neg h6,if_neg h7,if_neg h8,if_neg h9,if_neg h11,if_neg h12,if_neg h13,if_neg hdp,if_pos ei,if_neg hel]
  simp only[seval,go_sem,eN,e0,e1,e2,e3,e4,e5,e6,e7,e8,e9,e10,e11,e12,e13,hd0,ei,ee]
  try simp only[A2,A3]
  repeat' first|exact ck|with_reducible apply And.intro|intro _
  all_goals first|(refine okM.mono (by assumption) ?_;omega)|exact z0|exact z0.1|exact z3|exact z3.1|exact g0|exact g1|exact g2|(omega)|(simp only[jL3]at *;omega)|exact KZ|(refine A1 [] ?_;simp only[seval,go_sem,bne,E8,E9,hr,V9])
 |false=>
 have hif:¬(nxV 2 (nxM (dcM m))==0)=true:=by rw[ei];decide
 have z0:=E0 (j:=2) oK (by decide)
 have x1:=C6 (okM.mono oK (by omega))
 have x1o:=x1.okd oK
 have y1:=HU 1 s (nxM (nxM (dcM m)))
 have x2:=Ie 1 (s:=s) (okM.mono x1o (by omega))
 have x2o:=x2.okd x1o
 have y2:=hBl (B0 1 s (nxM (nxM (dcM m)))).2
 have x3:=hB _ (okM.mono x2o (by omega))
 have x3o:=x3.okd x2o
 have hr:stT d.toNat s m=Oi (IA (stT (d-1).toNat s)) s m:=by rw[hS1];unfold stB;rw[if_neg hn,if_neg h0,if_neg h3,if_neg h4,if_neg h5,if_neg h6,if_neg h7,if_neg h8,if_neg h9,if_neg h11,if_neg h12,if_neg h13,if_neg hdp,if_neg hif]
 simp only[seval,go_sem,eN,e0,e1,e2,e3,e4,e5,e6,e7,e8,e9,e10,e11,e12,e13,hd0,ei]
 try simp only[A2,A3]
 repeat' first|exact ck|with_reducible apply And.intro|intro _
 all_goals first|(refine okM.mono (by assumption) ?_;omega)|exact z0|exact z0.1|exact g0|exact g1|exact g2|(omega)|(simp only[jL3]at *;omega)|exact KZ|(refine A1 [] ?_;simp only[seval,go_sem,bne,E8,E9,hr,Oi])
theorem Ss:∀n:Nat,Np n
 |0=>by
  rintro ⟨m,s,d,_u⟩ w M I lab fz xs hc hA hl hx
  exact absurd hc.2.2.1 (by have:=hc.2.1;dsimp only at this ⊢;omega)
 |n+1=>mN n (Ss n)
end Go.Proofs.YtapedeoheilnnaaGreat
