/- The maker's statements and blocks. No conditions but those in each statement. -/
import Derived.Test.YtapedeoheilnnaaGreatMk3
set_option linter.all false
set_option maxRecDepth 20000
set_option maxHeartbeats 16000000
open List (length_append length_cons length_nil)
namespace Go.Proofs.YtapedeoheilnnaaGreat
open Go Go.Sy Go.RowKit
theorem p6{P:Prop}(h:P:=by
 have x1:=Jp (s:=s) (okM.mono o1 (by omega))
 have x1o:=x1.okd o1
 have x2:=CL (okM.mono x1o (by omega))
 have x2o:=x2.okd x1o
 show Ax m (nxM (pvT s (nxM (dcM m))).2) _
 exact((a1.trans x1).trans x2).mono (by omega)):P:=h
theorem sh{P:Prop}(h:P:=by exact(((a1.trans x1).trans x2).trans x3).mono (by omega)):P:=h
theorem s9{P:Prop}(h:P:=by exact((a1.trans x1).trans x2).mono (by omega)):P:=h
variable{c:Int}{f:Mk->T}{m:Mk}
theorem zW{P:Prop}(h:P:=by (repeat' first|exact ck|with_reducible apply And.intro|intro _);all_goals first|(refine okM.mono (by assumption) ?_;omega)|exact g0|exact g1|exact g2|(omega)|(simp only[jL3]at *;omega)|exact KZ|(refine A1 [] ?_;simp only[seval,go_sem,bne,EM,EN,hr,T9])):P:=h
theorem zX{P:Prop}(h:P:=by (repeat' first|exact ck|with_reducible apply And.intro|intro _);all_goals first|(refine okM.mono (by assumption) ?_;omega)|exact z0|exact z0.1|exact g0|exact g1|exact g2|(omega)|(simp only[jL3]at *;omega)|exact KZ|(refine A1 [] ?_;simp only[seval,go_sem,bne,EM,EN,hr,VN])):P:=h
theorem SE(w:Int):(nmS w).length<=1:=tC _
def dcM(m:Mk):Mk:={ m with n:=w64i (m.n-1) }
theorem Py(m:Mk):(⟨m.b,m.i,IntKind.i64.wrap (m.n-1)⟩:Mk)=dcM m:=rfl
theorem qc(h:okM m c):okM (dcM m) c:=h
theorem Ax.okd{q:Mk}{e:Int}(h:Ax m q c)(ho:okM m e):okM q (e-c):=h.ok (by rw[show c+(e-c)=e by omega];exact ho)
theorem A37(m:Mk):Ax m (dcM m) 0:=⟨Int.le_refl _,by show m.i<=m.i+0;omega,rfl⟩
def Ht(f:Mk->T):Nat->List UInt8->Mk->T
 |0,acc,m=>(acc,m)
 |k+1,acc,m=>Ht f k (acc++(f m).1) (f m).2
def IF(f:Mk->T)(m:Mk):T:=((Ht f (nxV 4 m).toNat [123,32] (nxM m)).1++[125,32],(Ht f (nxV 4 m).toNat [123,32] (nxM m)).2)
def T9(B:Mk->T)(s:Int)(m:Mk):T:=(((((BB (nxM (dcM m))).1++[32,61,32])++(AY 2 (BB (nxM (dcM m))).2).1)++[59,32]),(AY 2 (BB (nxM (dcM m))).2).2)
def Z7(B:Mk->T)(s:Int)(m:Mk):T:=(((((pvT s (nxM (dcM m))).1++[32,61,32,38])++cdT.getD (nxV 2 (pvT s (nxM (dcM m))).2).toNat [])++[59,32]),nxM (pvT s (nxM (dcM m))).2)
def Z8(B:Mk->T)(s:Int)(m:Mk):T:=(((((pvT s (nxM (dcM m))).1++[32,61,32])++nqT.getD (nxV 2 (pvT s (nxM (dcM m))).2).toNat [])++[59,32]),nxM (pvT s (nxM (dcM m))).2)
def Z9(B:Mk->T)(s:Int)(m:Mk):T:=(((((BB (nxM (dcM m))).1++[32,61,32,42])++(pvT s (BB (nxM (dcM m))).2).1)++[59,32]),(pvT s (BB (nxM (dcM m))).2).2)
def ZA(B:Mk->T)(s:Int)(m:Mk):T:=((((([42]++(pvT s (nxM (dcM m))).1)++[32,61,32])++(AY 1 (pvT s (nxM (dcM m))).2).1)++[59,32]),(AY 1 (pvT s (nxM (dcM m))).2).2)
def ZB(B:Mk->T)(s:Int)(m:Mk):T:=(((((((BB (nxM (dcM m))).1++[32,61,32])++tuT.getD (nxV 2 (BB (nxM (dcM m))).2).toNat [])++[91])++(AY 1 (nxM (BB (nxM (dcM m))).2)).1)++[93,59,32]),(AY 1 (nxM (BB (nxM (dcM m))).2)).2)
def ZC(B:Mk->T)(s:Int)(m:Mk):T:=((((((tuT.getD (nxV 2 (nxM (dcM m))).toNat []++[91])++(AY 1 (nxM (nxM (dcM m)))).1)++[93,32,61,32])++(AY 1 (AY 1 (nxM (nxM (dcM m)))).2).1)++[59,32]),(AY 1 (AY 1 (nxM (nxM (dcM m)))).2).2)
def VN(B:Mk->T)(s:Int)(m:Mk):T:=(((((((BB (nxM (nxM (dcM m)))).1++[32,61,32])++nmS (nxV 4 (nxM (dcM m))))++[40])++(Hr (nxV 4 (nxM (dcM m))) s (BB (nxM (nxM (dcM m)))).2).1)++[41,59,32]),(Hr (nxV 4 (nxM (dcM m))) s (BB (nxM (nxM (dcM m)))).2).2)
def VO(B:Mk->T)(s:Int)(m:Mk):T:=((((nmS (nxV 4 (nxM (dcM m)))++[40])++(Hr (IntKind.i64.wrap (nxV 4 (nxM (dcM m))+IntKind.i64.wrap ((nxV 9 (nxM (nxM (dcM m)))).tdiv 8))) s (nxM (nxM (nxM (dcM m))))).1)++[41,59,32]),(Hr (IntKind.i64.wrap (nxV 4 (nxM (dcM m))+IntKind.i64.wrap ((nxV 9 (nxM (nxM (dcM m)))).tdiv 8))) s (nxM (nxM (nxM (dcM m))))).2)
def VP(B:Mk->T)(s:Int)(m:Mk):T:=((([114,101,116,117,114,110,32]++(AY 1 (nxM (dcM m))).1)++[59,32]),(AY 1 (nxM (dcM m))).2)
def VQ(B:Mk->T)(s:Int)(m:Mk):T:=((([97,115,115,101,114,116,32,40]++(B4 1 s (nxM (dcM m))).1)++[41,59,32]),(B4 1 s (nxM (dcM m))).2)
def Qz(B:Mk->T)(s:Int)(m:Mk):T:=(((((BB (nxM (dcM m))).1++[32,61,32])++(AY 1 (BB (nxM (dcM m))).2).1)++[59,32]),(AY 1 (BB (nxM (dcM m))).2).2)
def VS(B:Mk->T)(s:Int)(m:Mk):T:=(((([105,102,32,40]++(B4 1 s (nxM (nxM (dcM m)))).1)++[41,32])++(B (B4 1 s (nxM (nxM (dcM m)))).2).1),nxM (B (B4 1 s (nxM (nxM (dcM m)))).2).2)
def R0(B:Mk->T)(s:Int)(m:Mk):T:=(((((([105,102,32,40]++(B4 1 s (nxM (nxM (dcM m)))).1)++[41,32])++(B (B4 1 s (nxM (nxM (dcM m)))).2).1)++[101,108,115,101,32])++(B (nxM (B (B4 1 s (nxM (nxM (dcM m)))).2).2)).1),(B (nxM (B (B4 1 s (nxM (nxM (dcM m)))).2).2)).2)
def P0(B:Mk->T)(s:Int)(m:Mk):T:=(((([119,104,105,108,101,32,40]++(B4 1 s (nxM (nxM (dcM m)))).1)++[41,32])++(B (B4 1 s (nxM (nxM (dcM m)))).2).1),(B (B4 1 s (nxM (nxM (dcM m)))).2).2)
def stV(B:Mk->T)(s:Int)(m:Mk):Int:=nxV 2 (B (B4 1 s (nxM (nxM (dcM m)))).2).2
def stB(dp:Bool)(B:Mk->T)(s:Int)(m:Mk):T:=
 if decide ((dcM m).n<0)=true then (([114,101,116,117,114,110,32]++(nuT (dcM m)).1)++[59,32],(nuT (dcM m)).2)
 else if (decide (nxV 18 (dcM m)<3))=true then T9 B s m
 else if (nxV 18 (dcM m)==3)=true then Z7 B s m
 else if (nxV 18 (dcM m)==4)=true then Z8 B s m
 else if (nxV 18 (dcM m)==5)=true then Z9 B s m
 else if (nxV 18 (dcM m)==6)=true then ZA B s m
 else if (nxV 18 (dcM m)==7)=true then ZB B s m
 else if (nxV 18 (dcM m)==8)=true then ZC B s m
 else if (decide (nxV 18 (dcM m)<11))=true then VN B s m
 else if (nxV 18 (dcM m)==11)=true then VO B s m
 else if (nxV 18 (dcM m)==12)=true then VP B s m
 else if (nxV 18 (dcM m)==13)=true then VQ B s m
 else if (!dp)=true then Qz B s m
 else if (nxV 2 (nxM (dcM m))==0)=true then (if (stV B s m==0)=true then R0 B s m else VS B s m)
 else P0 B s m
def stT:Nat->Int->Mk->T
 |0,s,m=>stB false (λm=>([],m)) s m
 |k+1,s,m=>stB true (IF (stT k s)) s m
def bc(c:Int):Nat->Int
 |0=>0
 |k+1=>c+bc c k
def bn(c:Nat):Nat->Nat
 |0=>0
 |k+1=>c+bn c k
theorem VT(h:0<=c):∀k,0<=bc c k
 |0=>Int.le_refl _
 |k+1=>by have:=VT h k;simp only[bc];omega
theorem qd(h:0<=c):∀k,k<=3->bc c k<=3*c
 |0,_=>by simp only[bc];omega
 |1,_=>by simp only[bc];omega
 |2,_=>by simp only[bc];omega
 |3,_=>by simp only[bc];omega
theorem qe{c:Nat}:∀k,k<=3->bn c k<=3*c
 |0,_=>by simp only[bn];omega
 |1,_=>by simp only[bn];omega
 |2,_=>by simp only[bn];omega
 |3,_=>by simp only[bn];omega
theorem qf(h0:0<=c)(hf:∀q,okM q c->Ax q (f q).2 c):∀(k:Nat) (acc:List UInt8) (q:Mk),okM q (bc c k)->Ax q (Ht f k acc q).2 (bc c k)
 |0,acc,q,h=>Ax.refl q
 |k+1,acc,q,h=>by
  have h1:=VT h0 k
  simp only[bc]at h ⊢
  have a1:=hf q (h.mono (by omega))
  exact a1.trans (qf h0 hf k _ _ (a1.ok h))
theorem Zl{c:Nat}(hf:∀q,(f q).1.length<=c):∀(k:Nat) (acc:List UInt8) (q:Mk),(Ht f k acc q).1.length<=acc.length+bn c k
 |0,acc,q=>Nat.le_refl _
 |k+1,acc,q=>by
  have h1:=hf q
  have h2:=Zl hf k (acc++(f q).1) (f q).2
  simp only[Ht,bn,length_append]at h2 ⊢
  omega
theorem im(h0:0<=c)(hf:∀q,okM q c->Ax q (f q).2 c)(m:Mk)(h:okM m (1+3*c)):Ax m (IF f m).2 (1+3*c):=by
 have a1:=CL (h.mono (by omega))
 have o1:okM (nxM m) (3*c):=a1.ok h
 have hv:=E7 (j:=4) h (by decide)
 have hb:=qd h0 (nxV 4 m).toNat (by omega)
 exact(a1.trans (qf h0 hf (nxV 4 m).toNat [123,32] (nxM m) (o1.mono hb))).mono (by omega)
theorem dE{c:Nat}(hf:∀q,(f q).1.length<=c)(m:Mk):(IF f m).1.length<=4+3*c:=by
 have hv:nxV 4 m<4:=Int.tmod_lt_of_pos _ (by decide)
 have hb:=qe (c:=c) (nxV 4 m).toNat (by omega)
 have h1:=Zl hf (nxV 4 m).toNat [123,32] (nxM m)
 simp only[IF,jL3]at h1 ⊢
 omega
theorem io{dp:Bool}{B:Mk->T}{K:Int}(hK:0<=K)(hB:∀q,okM q K->Ax q (B q).2 K){s:Int}(o0:okM m (60+2*K)):Ax m (stB dp B s m).2 (60+2*K):=by
 have a0:=A37 m
 have oK0:okM (dcM m) (60+2*K):=qc o0
 have a1:=a0.trans (CL (oK0.mono (by omega)))
 have oK:okM (nxM (dcM m)) (59+2*K):=a1.ok (o0.mono (by omega))
 have o1:okM (nxM (dcM m)) 59:=oK.mono (by omega)
 unfold stB
 by_cases hn:decide ((dcM m).n<0)=true
 .rw[if_pos hn]
  exact(a0.trans (fL (oK0.mono (by omega)))).mono (by omega)
 rw[if_neg hn]
 by_cases h0:(decide (nxV 18 (dcM m)<3))=true
 .rw[if_pos h0]
  have x1:=Fs (okM.mono o1 (by omega))
  have x1o:=x1.okd o1
  have x2:=Ea 2 (okM.mono x1o (by omega))
  have x2o:=x2.okd x1o
  show Ax m (AY 2 (BB (nxM (dcM m))).2).2 _
  exact s9
 rw[if_neg h0]
 by_cases h3:(nxV 18 (dcM m)==3)=true
 .rw[if_pos h3]
  exact p6
 rw[if_neg h3]
 by_cases h4:(nxV 18 (dcM m)==4)=true
 .rw[if_pos h4]
  exact p6
 rw[if_neg h4]
 by_cases h5:(nxV 18 (dcM m)==5)=true
 .rw[if_pos h5]
  have x1:=Fs (okM.mono o1 (by omega))
  have x1o:=x1.okd o1
  have x2:=Jp (s:=s) (okM.mono x1o (by omega))
  have x2o:=x2.okd x1o
  show Ax m (pvT s (BB (nxM (dcM m))).2).2 _
  exact s9
 rw[if_neg h5]
 by_cases h6:(nxV 18 (dcM m)==6)=true
 .rw[if_pos h6]
  have x1:=Jp (s:=s) (okM.mono o1 (by omega))
  have x1o:=x1.okd o1
  have x2:=Ea 1 (okM.mono x1o (by omega))
  have x2o:=x2.okd x1o
  show Ax m (AY 1 (pvT s (nxM (dcM m))).2).2 _
  exact s9
 rw[if_neg h6]
 by_cases h7:(nxV 18 (dcM m)==7)=true
 .rw[if_pos h7]
  have x1:=Fs (okM.mono o1 (by omega))
  have x1o:=x1.okd o1
  have x2:=CL (okM.mono x1o (by omega))
  have x2o:=x2.okd x1o
  have x3:=Ea 1 (okM.mono x2o (by omega))
  have x3o:=x3.okd x2o
  show Ax m (AY 1 (nxM (BB (nxM (dcM m))).2)).2 _
  exact sh
 rw[if_neg h7]
 by_cases h8:(nxV 18 (dcM m)==8)=true
 .rw[if_pos h8]
  have x1:=CL (okM.mono o1 (by omega))
  have x1o:=x1.okd o1
  have x2:=Ea 1 (okM.mono x1o (by omega))
  have x2o:=x2.okd x1o
  have x3:=Ea 1 (okM.mono x2o (by omega))
  have x3o:=x3.okd x2o
  show Ax m (AY 1 (AY 1 (nxM (nxM (dcM m)))).2).2 _
  exact sh
 rw[if_neg h8]
 by_cases h9:(decide (nxV 18 (dcM m)<11))=true
 .rw[if_pos h9]
  have x1:=CL (okM.mono o1 (by omega))
  have x1o:=x1.okd o1
  have x2:=Fs (okM.mono x1o (by omega))
  have x2o:=x2.okd x1o
  have x3:=SD (t:=nxV 4 (nxM (dcM m))) (s:=s) (okM.mono x2o (by omega))
  have x3o:=x3.okd x2o
  show Ax m (Hr (nxV 4 (nxM (dcM m))) s (BB (nxM (nxM (dcM m)))).2).2 _
  exact sh
 rw[if_neg h9]
 by_cases h11:(nxV 18 (dcM m)==11)=true
 .rw[if_pos h11]
  have x1:=CL (okM.mono o1 (by omega))
  have x1o:=x1.okd o1
  have x2:=CL (okM.mono x1o (by omega))
  have x2o:=x2.okd x1o
  have x3:=SD (t:=IntKind.i64.wrap (nxV 4 (nxM (dcM m))+IntKind.i64.wrap ((nxV 9 (nxM (nxM (dcM m)))).tdiv 8))) (s:=s) (okM.mono x2o (by omega))
  have x3o:=x3.okd x2o
  show Ax m (Hr (IntKind.i64.wrap (nxV 4 (nxM (dcM m))+IntKind.i64.wrap ((nxV 9 (nxM (nxM (dcM m)))).tdiv 8))) s (nxM (nxM (nxM (dcM m))))).2 _
  exact sh
 rw[if_neg h11]
 by_cases h12:(nxV 18 (dcM m)==12)=true
 .rw[if_pos h12]
  have x1:=Ea 1 (okM.mono o1 (by omega))
  have x1o:=x1.okd o1
  show Ax m (AY 1 (nxM (dcM m))).2 _
  exact(a1.trans x1).mono (by omega)
 rw[if_neg h12]
 by_cases h13:(nxV 18 (dcM m)==13)=true
 .rw[if_pos h13]
  have x1:=Ir 1 (s:=s) (okM.mono o1 (by omega))
  have x1o:=x1.okd o1
  show Ax m (B4 1 s (nxM (dcM m))).2 _
  exact(a1.trans x1).mono (by omega)
 rw[if_neg h13]
 by_cases hbase:(!dp)=true
 .rw[if_pos hbase]
  have x1:=Fs (okM.mono o1 (by omega))
  have x1o:=x1.okd o1
  have x2:=Ea 1 (okM.mono x1o (by omega))
  have x2o:=x2.okd x1o
  show Ax m (AY 1 (BB (nxM (dcM m))).2).2 _
  exact s9
 rw[if_neg hbase]
 by_cases hif:(nxV 2 (nxM (dcM m))==0)=true
 .rw[if_pos hif]
  by_cases hel:(stV B s m==0)=true
  .rw[if_pos hel]
   have x1:=CL (okM.mono oK (by omega))
   have x1o:=x1.okd oK
   have x2:=Ir 1 (s:=s) (okM.mono x1o (by omega))
   have x2o:=x2.okd x1o
   have x3:=hB _ (okM.mono x2o (by omega))
   have x3o:=x3.okd x2o
   have x4:=CL (okM.mono x3o (by omega))
   have x4o:=x4.okd x3o
   have x5:=hB _ (okM.mono x4o (by omega))
   have x5o:=x5.okd x4o
   show Ax m (B (nxM (B (B4 1 s (nxM (nxM (dcM m)))).2).2)).2 _
   exact(((((a1.trans x1).trans x2).trans x3).trans x4).trans x5).mono (by omega)
  rw[if_neg hel]
  have x1:=CL (okM.mono oK (by omega))
  have x1o:=x1.okd oK
  have x2:=Ir 1 (s:=s) (okM.mono x1o (by omega))
  have x2o:=x2.okd x1o
  have x3:=hB _ (okM.mono x2o (by omega))
  have x3o:=x3.okd x2o
  have x4:=CL (okM.mono x3o (by omega))
  have x4o:=x4.okd x3o
  show Ax m (nxM (B (B4 1 s (nxM (nxM (dcM m)))).2).2) _
  exact((((a1.trans x1).trans x2).trans x3).trans x4).mono (by omega)
 rw[if_neg hif]
 have x1:=CL (okM.mono oK (by omega))
 have x1o:=x1.okd oK
 have x2:=Ir 1 (s:=s) (okM.mono x1o (by omega))
 have x2o:=x2.okd x1o
 have x3:=hB _ (okM.mono x2o (by omega))
 have x3o:=x3.okd x2o
 show Ax m (B (B4 1 s (nxM (nxM (dcM m)))).2).2 _
 exact sh
theorem dF{dp:Bool}{B:Mk->T}{L:Nat}(hBl:∀q,(B q).1.length<=L)(s:Int)(m:Mk):(stB dp B s m).1.length<=400+2*L:=by
 unfold stB
 by_cases hn:decide ((dcM m).n<0)=true
 .rw[if_pos hn]
  have h1:=VL (dcM m)
  simp only[jL3]
  omega
 rw[if_neg hn]
 by_cases h0:(decide (nxV 18 (dcM m)<3))=true
 .rw[if_pos h0]
  have y0:=Dx (nxM (dcM m))
  have y1:=DW 2 (BB (nxM (dcM m))).2
  simp only[T9,jL3]
  omega
 rw[if_neg h0]
 by_cases h3:(nxV 18 (dcM m)==3)=true
 .rw[if_pos h3]
  have y0:=HJ s (nxM (dcM m))
  have y1:=dA (nxV 2 (pvT s (nxM (dcM m))).2).toNat
  simp only[Z7,jL3]
  omega
 rw[if_neg h3]
 by_cases h4:(nxV 18 (dcM m)==4)=true
 .rw[if_pos h4]
  have y0:=HJ s (nxM (dcM m))
  have y1:=dB (nxV 2 (pvT s (nxM (dcM m))).2).toNat
  simp only[Z8,jL3]
  omega
 rw[if_neg h4]
 by_cases h5:(nxV 18 (dcM m)==5)=true
 .rw[if_pos h5]
  have y0:=Dx (nxM (dcM m))
  have y1:=HJ s (BB (nxM (dcM m))).2
  simp only[Z9,jL3]
  omega
 rw[if_neg h5]
 by_cases h6:(nxV 18 (dcM m)==6)=true
 .rw[if_pos h6]
  have y0:=HJ s (nxM (dcM m))
  have y1:=DW 1 (pvT s (nxM (dcM m))).2
  simp only[ZA,jL3]
  omega
 rw[if_neg h6]
 by_cases h7:(nxV 18 (dcM m)==7)=true
 .rw[if_pos h7]
  have y0:=Dx (nxM (dcM m))
  have y1:=T4 (nxV 2 (BB (nxM (dcM m))).2).toNat
  have y2:=DW 1 (nxM (BB (nxM (dcM m))).2)
  simp only[ZB,jL3]
  omega
 rw[if_neg h7]
 by_cases h8:(nxV 18 (dcM m)==8)=true
 .rw[if_pos h8]
  have y0:=T4 (nxV 2 (nxM (dcM m))).toNat
  have y1:=DW 1 (nxM (nxM (dcM m)))
  have y2:=DW 1 (AY 1 (nxM (nxM (dcM m)))).2
  simp only[ZC,jL3]
  omega
 rw[if_neg h8]
 by_cases h9:(decide (nxV 18 (dcM m)<11))=true
 .rw[if_pos h9]
  have y1:=Dx (nxM (nxM (dcM m)))
  have y2n:=SE (nxV 4 (nxM (dcM m)))
  have y2:=Px (nxV 4 (nxM (dcM m))) s (BB (nxM (nxM (dcM m)))).2
  simp only[VN,jL3]
  omega
 rw[if_neg h9]
 by_cases h11:(nxV 18 (dcM m)==11)=true
 .rw[if_pos h11]
  have y1n:=SE (nxV 4 (nxM (dcM m)))
  have y2:=Px (IntKind.i64.wrap (nxV 4 (nxM (dcM m))+IntKind.i64.wrap ((nxV 9 (nxM (nxM (dcM m)))).tdiv 8))) s (nxM (nxM (nxM (dcM m))))
  simp only[VO,jL3]
  omega
 rw[if_neg h11]
 by_cases h12:(nxV 18 (dcM m)==12)=true
 .rw[if_pos h12]
  have y0:=DW 1 (nxM (dcM m))
  simp only[VP,jL3]
  omega
 rw[if_neg h12]
 by_cases h13:(nxV 18 (dcM m)==13)=true
 .rw[if_pos h13]
  have y0:=HY 1 s (nxM (dcM m))
  simp only[VQ,jL3]
  omega
 rw[if_neg h13]
 by_cases hbase:(!dp)=true
 .rw[if_pos hbase]
  have y0:=Dx (nxM (dcM m))
  have y1:=DW 1 (BB (nxM (dcM m))).2
  simp only[Qz,jL3]
  omega
 rw[if_neg hbase]
 by_cases hif:(nxV 2 (nxM (dcM m))==0)=true
 .rw[if_pos hif]
  by_cases hel:(stV B s m==0)=true
  .rw[if_pos hel]
   have y1:=HY 1 s (nxM (nxM (dcM m)))
   have y2:=hBl (B4 1 s (nxM (nxM (dcM m)))).2
   have y4:=hBl (nxM (B (B4 1 s (nxM (nxM (dcM m)))).2).2)
   simp only[R0,jL3]
   omega
  rw[if_neg hel]
  have y1:=HY 1 s (nxM (nxM (dcM m)))
  have y2:=hBl (B4 1 s (nxM (nxM (dcM m)))).2
  simp only[VS,jL3]
  omega
 rw[if_neg hif]
 have y1:=HY 1 s (nxM (nxM (dcM m)))
 have y2:=hBl (B4 1 s (nxM (nxM (dcM m)))).2
 simp only[P0,jL3]
 omega
def stC:Nat->Int
 |0=>60
 |k+1=>60+2*(1+3*stC k)
def stL:Nat->Nat
 |0=>400
 |k+1=>400+2*(4+3*stL k)
theorem SF:∀k,60<=stC k
 |0=>Int.le_refl _
 |k+1=>by have:=SF k;simp only[stC];omega
theorem VU:∀k,k<=3->stL k<=200000
 |0,_=>by decide
 |1,_=>by decide
 |2,_=>by decide
 |3,_=>by decide
theorem VV:∀(k:Nat) {s:Int} {m:Mk},okM m (stC k)->Ax m (stT k s m).2 (stC k)
 |0,s,m,h=>(io (K:=0) (Int.le_refl _) (λq _=>Ax.refl q) (h.mono (by decide))).mono (by decide)
 |k+1,s,m,h=>by
  have h1:=SF k
  simp only[stC]at h ⊢
  exact io (K:=1+3*stC k) (by omega) (λq hq=>im (by omega) (λr hr=>VV k hr) q hq) h
theorem Pz:∀(k:Nat) (s:Int) (m:Mk),(stT k s m).1.length<=stL k
 |0,s,m=>dF (L:=0) (λq=>Nat.le_refl _) s m
 |k+1,s,m=>dF (L:=4+3*stL k) (λq=>dE (λr=>Pz k s r) q) s m
abbrev my(n:Nat)(m:Mk)(s:Int)(d:Int):Prop:=okM m (stC d.toNat)/\0<=d/\d<(n:Int)/\d<=3
abbrev EM(n:Nat)(m:Mk)(s:Int)(d:Int):SV:=.one (.v (.string (bs (stT d.toNat s m).1)))
abbrev EN(n:Nat)(m:Mk)(s:Int)(d:Int):List (Option MV):=[some (zMk,[(stT d.toNat s m).2.c])]
noncomputable abbrev Li:ArgM ((Mk)×(Int)×(Int)×Unit):=(amP (mMk) (amD (cInt .i64) (amD (cInt .i64) am0)))
abbrev O3(n:Nat):Prop:=C7 Tryz.prog 70 ((Li).args 0) (Li).mem (λp:(Mk)×(Int)×(Int)×Unit=>my n p.1 p.2.1 p.2.2.1) (λp:(Mk)×(Int)×(Int)×Unit=>EM n p.1 p.2.1 p.2.2.1) (λp:(Mk)×(Int)×(Int)×Unit=>EN n p.1 p.2.1 p.2.2.1)
noncomputable def Em{X:Ctx}{w0:World}(n:Nat)(h:O3 n):Sy.Spec Tryz.prog X w0:=D0 70 Tryz.call70 (Li) _ _ _ KF1 KF0 KF7 h
abbrev ir(n:Nat)(m:Mk)(s:Int)(d:Int):Prop:=okM m (1+3*stC (d-1).toNat)/\1<=d/\d-1<(n:Int)/\d<=3
abbrev SG(n:Nat)(m:Mk)(s:Int)(d:Int):SV:=.one (.v (.string (bs (IF (stT (d-1).toNat s) m).1)))
abbrev SH(n:Nat)(m:Mk)(s:Int)(d:Int):List (Option MV):=[some (zMk,[(IF (stT (d-1).toNat s) m).2.c])]
noncomputable abbrev Ko:ArgM ((Mk)×(Int)×(Int)×Unit):=(amP (mMk) (amD (cInt .i64) (amD (cInt .i64) am0)))
abbrev YT(n:Nat):Prop:=C7 Tryz.prog 86 ((Ko).args 0) (Ko).mem (λp:(Mk)×(Int)×(Int)×Unit=>ir n p.1 p.2.1 p.2.2.1) (λp:(Mk)×(Int)×(Int)×Unit=>SG n p.1 p.2.1 p.2.2.1) (λp:(Mk)×(Int)×(Int)×Unit=>SH n p.1 p.2.1 p.2.2.1)
noncomputable def YU{X:Ctx}{w0:World}(n:Nat)(h:YT n):Sy.Spec Tryz.prog X w0:=D0 86 Tryz.call86 (Ko) _ _ _ KF1 KF0 KF7 h
attribute [local go_sem] Mk.c zBy
theorem mz(n:Nat)(hu:O3 n):YT n:=by
 rintro ⟨m,s,d,_u⟩ w M I lab fz xs hc hA hl hx
 refine Ac Tryz.func86 rfl ((Ko).mem ⟨m,s,d,_u⟩) w M I lab fz [CV,(Em n hu)] [] ((Ko).args 0 ⟨m,s,d,_u⟩) ((λp:(Mk)×(Int)×(Int)×Unit=>SH n p.1 p.2.1 p.2.2.1) ⟨m,s,d,_u⟩) ((λp:(Mk)×(Int)×(Int)×Unit=>SG n p.1 p.2.1 p.2.2.1) ⟨m,s,d,_u⟩) xs hA hl hx (λv hv k hk=>by have:=(Ko).an 0 ⟨m,s,d,_u⟩ v hv k hk;omega) (jN rfl) (jN rfl) ?_
 clear hx hl hA xs
 simp only[Tryz.f86]
 obtain⟨o0,g0,g1,g2⟩:=hc
 dsimp only at o0 g0 g1 g2
 obtain⟨d',hd'⟩:∃d':Int,d'=d-1:=⟨_,rfl⟩
 have hdw:IntKind.i64.wrap (d-1)=d':=by rw[hd'];exact wrap_i64 (by omega) (by omega)
 obtain⟨k,hk⟩:∃k:Nat,(d-1).toNat=k:=⟨_,rfl⟩
 have hk':d'.toNat=k:=by rw[hd'];exact hk
 rw[hk]at o0
 have p0:0<=d':=by omega
 have p1:d'<(n:Int):=by omega
 have p2:d'<=3:=by omega
 have hk3:k<=3:=by omega
 have c0:=SF k
 have hL:=VU k hk3
 have a1:=CL (okM.mono o0 (by omega))
 have o1:okM (nxM m) (3*stC k):=a1.ok o0
 have hv:=E7 (j:=4) o0 (by decide)
 obtain⟨c,hc⟩:∃c:Nat,nxV 4 m=(c:Int):=⟨_,(Int.toNat_of_nonneg hv.1).symm⟩
 have hc3:c<=3:=by omega
 have hct:(nxV 4 m).toNat=c:=by omega
 have hr:IF (stT k s) m=((Ht (stT k s) c [123,32] (nxM m)).1++[125,32],(Ht (stT k s) c [123,32] (nxM m)).2):=by unfold IF;rw[hct]
 simp only[seval,go_sem,CV,LB,EG,Iq,Hq,KV,O0,Fo,Em,HD,HC,HE,Fm,Py,FB,Fy,G0,G1,G2,G3,G4,G5,G6,G7,tn0,tn1,tn2,hc]
 refine⟨⟨okM.mono o0 (by omega),by decide⟩,?_⟩
 refine AC (Y:=Nat×List UInt8×Mk) (λy=>y.1<=3/\okM y.2.2 (bc (stC k) y.1)/\y.2.1.length+bn (stL k) y.1<=3*stL k+2/\Ht (stT k s) y.1 y.2.1 y.2.2=Ht (stT k s) c [123,32] (nxM m))
  (λy=>⟨[(0,true,.one (.p 0 0 0)),(1,true,.one (.v (.int .i64 s))),(2,true,.one (.v (.int .i64 d))),(7,true,.one (.v (.string (bs y.2.1)))),(8,true,.one (.v (.int .i64 (y.1:Int))))],[(0,.vec 0 zMk [y.2.2.c])]⟩)
  (λy=>y.1) (c,[123,32],nxM m) ⟨hc3,okM.mono o1 (qd (by omega) c hc3),by have:=qe (c:=stL k) c hc3;simp only[length_cons,length_nil];omega,rfl⟩ ?_ ?_
 .exact N4
 rintro ⟨j,acc,q⟩ ⟨h1,h2,h3,h4⟩
 refine AP [CV,Em n hu] [] _ _ _ ?_
 dsimp only at h1 h2 h3 h4
 cases j with
 |zero=>
  simp only[Ht]at h4
  rw[<- h4]at hr
  have e0:decide ((0:Int)<((0:Nat):Int))=false:=rfl
  simp only[seval,go_sem,CV,LB,EG,Iq,Hq,KV,O0,Fo,Em,HD,HC,HE,Fm,Py,FB,Fy,G0,G1,G2,G3,G4,G5,G6,G7,tn0,tn1,tn2,e0]
  repeat' first|exact ck|with_reducible apply And.intro|intro _
  all_goals first|(simp only[bn,length_cons,length_nil]at *;omega)|exact KZ|(refine A1 [] ?_;simp only[seval,go_sem,bne,SG,SH,hk,hr,HD,HC,HE,Fm,Py,FB,Fy,G0,G1,G2,G3,G4,G5,G6,G7,tn0,tn1,tn2])
 |succ j=>
 simp only[Ht,bc,bn]at h2 h3 h4
 have e0:decide ((0:Int)<((j+1:Nat):Int))=true:=decide_eq_true (by omega)
 have e1:IntKind.i64.wrap (((j+1:Nat):Int)-1)=(j:Int):=by rw[wrap_i64 (by omega) (by omega)];omega
 have hb0:=VT (c:=stC k) (by omega) j
 have oq:okM q (stC k):=okM.mono h2 (by omega)
 have a2:=VV k (s:=s) oq
 have l2:=Pz k s q
 simp only[seval,go_sem,CV,LB,EG,Iq,Hq,KV,O0,Fo,Em,HD,HC,HE,Fm,Py,FB,Fy,G0,G1,G2,G3,G4,G5,G6,G7,tn0,tn1,tn2,e0,e1,hdw,hk']
 try simp only[AD,AE]
 repeat' first|exact ck|with_reducible apply And.intro|intro _
 all_goals try first|(rw[hk'];exact oq)|exact oq|exact p0|exact p1|exact p2|(omega)|exact KZ
 refine⟨(j,acc++(stT k s q).1,(stT k s q).2),⟨by omega,a2.ok h2,by simp only[length_append];omega,h4⟩,Nat.lt_succ_self _,A2 [] ?_⟩
 simp only[seval,go_sem]
attribute[local go_sem] G2 G1 Py G5 G6 Fy HE HD HC Fm G7 G3 FB G0 tn0 tn1 tn2 G4 YU KV Hq Fo EG O0 CV LB Iq in
theorem nA(n:Nat)(hu:O3 n):O3 (n+1):=by
 rintro ⟨m,s,d,_u⟩ w M I lab fz xs hc hA hl hx
 refine Ac Tryz.func70 rfl ((Li).mem ⟨m,s,d,_u⟩) w M I lab fz [CV,LB,EG,Iq,(Hq 3 (VM 3)),(KV 2 (dD 2)),O0,Fo,(YU n (mz n hu))] [] ((Li).args 0 ⟨m,s,d,_u⟩) ((λp:(Mk)×(Int)×(Int)×Unit=>EN (n+1) p.1 p.2.1 p.2.2.1) ⟨m,s,d,_u⟩) ((λp:(Mk)×(Int)×(Int)×Unit=>EM (n+1) p.1 p.2.1 p.2.2.1) ⟨m,s,d,_u⟩) xs hA hl hx (λv hv k hk=>by have:=(Li).an 0 ⟨m,s,d,_u⟩ v hv k hk;omega) (jN rfl) (jN rfl) ?_
 clear hx hl hA xs
 simp only[Tryz.f70]
 obtain⟨oS,g0,g1,g2⟩:=hc
 dsimp only at oS g0 g1 g2
 have c9:=SF d.toNat
 have oD:okM (dcM m) (stC d.toNat):=qc oS
 obtain⟨dp,B,hS⟩:∃dp B,stT d.toNat s m=stB dp B s m:=by cases d.toNat<;>exact⟨_,_,rfl⟩
 have e90:=Py m
 cases eN:decide (IntKind.i64.wrap (m.n-1)<0) with
 |true=>
  have hn:decide ((dcM m).n<0)=true:=eN
  have y0:=VL (dcM m)
  have hr:stT d.toNat s m=(([114,101,116,117,114,110,32]++(nuT (dcM m)).1)++[59,32],(nuT (dcM m)).2):=by rw[hS];unfold stB;rw[if_pos hn]
  simp only[seval,go_sem,eN]
  repeat' first|exact ck|with_reducible apply And.intro|intro _
  all_goals first|exact okM.mono oD (by omega)|(simp only[jL3]at *;omega)|exact KZ|(refine A1 [] ?_;simp only[seval,go_sem,bne,EM,EN,hr])
 |false=>
 have hn:¬decide ((dcM m).n<0)=true:=by rw[show decide ((dcM m).n<0)=false from eN];decide
 have a1:=CL (okM.mono oD (by omega))
 have o1:okM (nxM (dcM m)) 59:=a1.ok (okM.mono oD (by omega))
 have hv:=E7 (j:=18) oD (by decide)
 cases e0:(nxV 18 (dcM m)==0) with
 |true=>
  have y0:=Dx (nxM (dcM m))
  have x1:=Fs (okM.mono o1 (by omega))
  have x1o:=x1.okd o1
  have y1:=DW 2 (BB (nxM (dcM m))).2
  have x2:=Ea 2 (okM.mono x1o (by omega))
  have x2o:=x2.okd x1o
  have h0:(decide (nxV 18 (dcM m)<3))=true:=decide_eq_true (by have:=eq_of_beq e0;omega)
  have hr:stT d.toNat s m=T9 B s m:=by rw[hS];unfold stB;rw[if_neg hn,if_pos h0]
  simp only[seval,go_sem,eN,e0]
  try exact zW
 |false=>
 cases e1:(nxV 18 (dcM m)==1) with
 |true=>
  have y0:=Dx (nxM (dcM m))
  have x1:=Fs (okM.mono o1 (by omega))
  have x1o:=x1.okd o1
  have y1:=DW 2 (BB (nxM (dcM m))).2
  have x2:=Ea 2 (okM.mono x1o (by omega))
  have x2o:=x2.okd x1o
  have h0:(decide (nxV 18 (dcM m)<3))=true:=decide_eq_true (by have:=eq_of_beq e1;omega)
  have hr:stT d.toNat s m=T9 B s m:=by rw[hS];unfold stB;rw[if_neg hn,if_pos h0]
  simp only[seval,go_sem,eN,e0,e1]
  try exact zW
 |false=>
 cases e2:(nxV 18 (dcM m)==2) with
 |true=>
  have y0:=Dx (nxM (dcM m))
  have x1:=Fs (okM.mono o1 (by omega))
  have x1o:=x1.okd o1
  have y1:=DW 2 (BB (nxM (dcM m))).2
  have x2:=Ea 2 (okM.mono x1o (by omega))
  have x2o:=x2.okd x1o
  have h0:(decide (nxV 18 (dcM m)<3))=true:=decide_eq_true (by have:=eq_of_beq e2;omega)
  have hr:stT d.toNat s m=T9 B s m:=by rw[hS];unfold stB;rw[if_neg hn,if_pos h0]
  simp only[seval,go_sem,eN,e0,e1,e2]
  try exact zW
 |false=>
 have h0:¬(decide (nxV 18 (dcM m)<3))=true:=by have n0:nxV 18 (dcM m)≠0:=(by simpa using e0);have n1:nxV 18 (dcM m)≠1:=(by simpa using e1);have n2:nxV 18 (dcM m)≠2:=(by simpa using e2);simp only[decide_eq_true_eq];omega
 cases e3:(nxV 18 (dcM m)==3) with
 |true=>
  have y0:=HJ s (nxM (dcM m))
  have x1:=Jp (s:=s) (okM.mono o1 (by omega))
  have x1o:=x1.okd o1
  have y1:=dA (nxV 2 (pvT s (nxM (dcM m))).2).toNat
  have z1:=E7 (j:=2) x1o (by decide)
  have x2:=CL (okM.mono x1o (by omega))
  have x2o:=x2.okd x1o
  have h3:(nxV 18 (dcM m)==3)=true:=e3
  have hr:stT d.toNat s m=Z7 B s m:=by rw[hS];unfold stB;rw[if_neg hn,if_neg h0,if_pos h3]
  simp only[seval,go_sem,eN,e0,e1,e2,e3]
  repeat' first|exact ck|with_reducible apply And.intro|intro _
  all_goals first|(refine okM.mono (by assumption) ?_;omega)|exact z1|exact g0|exact g1|exact g2|(omega)|(simp only[jL3]at *;omega)|exact KZ|(refine A1 [] ?_;simp only[seval,go_sem,bne,EM,EN,hr,Z7])
 |false=>
 have h3:¬(nxV 18 (dcM m)==3)=true:=by rw[e3];decide
 cases e4:(nxV 18 (dcM m)==4) with
 |true=>
  have y0:=HJ s (nxM (dcM m))
  have x1:=Jp (s:=s) (okM.mono o1 (by omega))
  have x1o:=x1.okd o1
  have y1:=dB (nxV 2 (pvT s (nxM (dcM m))).2).toNat
  have z1:=E7 (j:=2) x1o (by decide)
  have x2:=CL (okM.mono x1o (by omega))
  have x2o:=x2.okd x1o
  have h4:(nxV 18 (dcM m)==4)=true:=e4
  have hr:stT d.toNat s m=Z8 B s m:=by rw[hS];unfold stB;rw[if_neg hn,if_neg h0,if_neg h3,if_pos h4]
  simp only[seval,go_sem,eN,e0,e1,e2,e3,e4]
  repeat' first|exact ck|with_reducible apply And.intro|intro _
  all_goals first|(refine okM.mono (by assumption) ?_;omega)|exact z1|exact g0|exact g1|exact g2|(omega)|(simp only[jL3]at *;omega)|exact KZ|(refine A1 [] ?_;simp only[seval,go_sem,bne,EM,EN,hr,Z8])
 |false=>
 have h4:¬(nxV 18 (dcM m)==4)=true:=by rw[e4];decide
 cases e5:(nxV 18 (dcM m)==5) with
 |true=>
  have y0:=Dx (nxM (dcM m))
  have x1:=Fs (okM.mono o1 (by omega))
  have x1o:=x1.okd o1
  have y1:=HJ s (BB (nxM (dcM m))).2
  have x2:=Jp (s:=s) (okM.mono x1o (by omega))
  have x2o:=x2.okd x1o
  have h5:(nxV 18 (dcM m)==5)=true:=e5
  have hr:stT d.toNat s m=Z9 B s m:=by rw[hS];unfold stB;rw[if_neg hn,if_neg h0,if_neg h3,if_neg h4,if_pos h5]
  simp only[seval,go_sem,eN,e0,e1,e2,e3,e4,e5]
  repeat' first|exact ck|with_reducible apply And.intro|intro _
  all_goals first|(refine okM.mono (by assumption) ?_;omega)|exact g0|exact g1|exact g2|(omega)|(simp only[jL3]at *;omega)|exact KZ|(refine A1 [] ?_;simp only[seval,go_sem,bne,EM,EN,hr,Z9])
 |false=>
 have h5:¬(nxV 18 (dcM m)==5)=true:=by rw[e5];decide
 cases e6:(nxV 18 (dcM m)==6) with
 |true=>
  have y0:=HJ s (nxM (dcM m))
  have x1:=Jp (s:=s) (okM.mono o1 (by omega))
  have x1o:=x1.okd o1
  have y1:=DW 1 (pvT s (nxM (dcM m))).2
  have x2:=Ea 1 (okM.mono x1o (by omega))
  have x2o:=x2.okd x1o
  have h6:(nxV 18 (dcM m)==6)=true:=e6
  have hr:stT d.toNat s m=ZA B s m:=by rw[hS];unfold stB;rw[if_neg hn,if_neg h0,if_neg h3,if_neg h4,if_neg h5,if_pos h6]
  simp only[seval,go_sem,eN,e0,e1,e2,e3,e4,e5,e6]
  repeat' first|exact ck|with_reducible apply And.intro|intro _
  all_goals first|(refine okM.mono (by assumption) ?_;omega)|exact g0|exact g1|exact g2|(omega)|(simp only[jL3]at *;omega)|exact KZ|(refine A1 [] ?_;simp only[seval,go_sem,bne,EM,EN,hr,ZA])
 |false=>
 have h6:¬(nxV 18 (dcM m)==6)=true:=by rw[e6];decide
 cases e7:(nxV 18 (dcM m)==7) with
 |true=>
  have y0:=Dx (nxM (dcM m))
  have x1:=Fs (okM.mono o1 (by omega))
  have x1o:=x1.okd o1
  have y1:=T4 (nxV 2 (BB (nxM (dcM m))).2).toNat
  have z1:=E7 (j:=2) x1o (by decide)
  have x2:=CL (okM.mono x1o (by omega))
  have x2o:=x2.okd x1o
  have y2:=DW 1 (nxM (BB (nxM (dcM m))).2)
  have x3:=Ea 1 (okM.mono x2o (by omega))
  have x3o:=x3.okd x2o
  have h7:(nxV 18 (dcM m)==7)=true:=e7
  have hr:stT d.toNat s m=ZB B s m:=by rw[hS];unfold stB;rw[if_neg hn,if_neg h0,if_neg h3,if_neg h4,if_neg h5,if_neg h6,if_pos h7]
  simp only[seval,go_sem,eN,e0,e1,e2,e3,e4,e5,e6,e7]
  repeat' first|exact ck|with_reducible apply And.intro|intro _
  all_goals first|(refine okM.mono (by assumption) ?_;omega)|exact z1|exact g0|exact g1|exact g2|(omega)|(simp only[jL3]at *;omega)|exact KZ|(refine A1 [] ?_;simp only[seval,go_sem,bne,EM,EN,hr,ZB])
 |false=>
 have h7:¬(nxV 18 (dcM m)==7)=true:=by rw[e7];decide
 cases e8:(nxV 18 (dcM m)==8) with
 |true=>
  have y0:=T4 (nxV 2 (nxM (dcM m))).toNat
  have z0:=E7 (j:=2) o1 (by decide)
  have x1:=CL (okM.mono o1 (by omega))
  have x1o:=x1.okd o1
  have y1:=DW 1 (nxM (nxM (dcM m)))
  have x2:=Ea 1 (okM.mono x1o (by omega))
  have x2o:=x2.okd x1o
  have y2:=DW 1 (AY 1 (nxM (nxM (dcM m)))).2
  have x3:=Ea 1 (okM.mono x2o (by omega))
  have x3o:=x3.okd x2o
  have h8:(nxV 18 (dcM m)==8)=true:=e8
  have hr:stT d.toNat s m=ZC B s m:=by rw[hS];unfold stB;rw[if_neg hn,if_neg h0,if_neg h3,if_neg h4,if_neg h5,if_neg h6,if_neg h7,if_pos h8]
  simp only[seval,go_sem,eN,e0,e1,e2,e3,e4,e5,e6,e7,e8]
  repeat' first|exact ck|with_reducible apply And.intro|intro _
  all_goals first|(refine okM.mono (by assumption) ?_;omega)|exact z0|exact g0|exact g1|exact g2|(omega)|(simp only[jL3]at *;omega)|exact KZ|(refine A1 [] ?_;simp only[seval,go_sem,bne,EM,EN,hr,ZC])
 |false=>
 have h8:¬(nxV 18 (dcM m)==8)=true:=by rw[e8];decide
 cases e9:(nxV 18 (dcM m)==9) with
 |true=>
  have z0:=E7 (j:=4) o1 (by decide)
  have x1:=CL (okM.mono o1 (by omega))
  have x1o:=x1.okd o1
  have y1:=Dx (nxM (nxM (dcM m)))
  have x2:=Fs (okM.mono x1o (by omega))
  have x2o:=x2.okd x1o
  have y2n:=SE (nxV 4 (nxM (dcM m)))
  have y2:=Px (nxV 4 (nxM (dcM m))) s (BB (nxM (nxM (dcM m)))).2
  have x3:=SD (t:=nxV 4 (nxM (dcM m))) (s:=s) (okM.mono x2o (by omega))
  have x3o:=x3.okd x2o
  have h9:(decide (nxV 18 (dcM m)<11))=true:=decide_eq_true (by have:=eq_of_beq e9;omega)
  have hr:stT d.toNat s m=VN B s m:=by rw[hS];unfold stB;rw[if_neg hn,if_neg h0,if_neg h3,if_neg h4,if_neg h5,if_neg h6,if_neg h7,if_neg h8,if_pos h9]
  simp only[seval,go_sem,eN,e0,e1,e2,e3,e4,e5,e6,e7,e8,e9]
  try exact zX
 |false=>
 cases e10:(nxV 18 (dcM m)==10) with
 |true=>
  have z0:=E7 (j:=4) o1 (by decide)
  have x1:=CL (okM.mono o1 (by omega))
  have x1o:=x1.okd o1
  have y1:=Dx (nxM (nxM (dcM m)))
  have x2:=Fs (okM.mono x1o (by omega))
  have x2o:=x2.okd x1o
  have y2n:=SE (nxV 4 (nxM (dcM m)))
  have y2:=Px (nxV 4 (nxM (dcM m))) s (BB (nxM (nxM (dcM m)))).2
  have x3:=SD (t:=nxV 4 (nxM (dcM m))) (s:=s) (okM.mono x2o (by omega))
  have x3o:=x3.okd x2o
  have h9:(decide (nxV 18 (dcM m)<11))=true:=decide_eq_true (by have:=eq_of_beq e10;omega)
  have hr:stT d.toNat s m=VN B s m:=by rw[hS];unfold stB;rw[if_neg hn,if_neg h0,if_neg h3,if_neg h4,if_neg h5,if_neg h6,if_neg h7,if_neg h8,if_pos h9]
  simp only[seval,go_sem,eN,e0,e1,e2,e3,e4,e5,e6,e7,e8,e9,e10]
  try exact zX
 |false=>
 have h9:¬(decide (nxV 18 (dcM m)<11))=true:=by have k0:¬(nxV 18 (dcM m)<3):=(by simpa using h0);have n3:nxV 18 (dcM m)≠3:=(by simpa using e3);have n4:nxV 18 (dcM m)≠4:=(by simpa using e4);have n5:nxV 18 (dcM m)≠5:=(by simpa using e5);have n6:nxV 18 (dcM m)≠6:=(by simpa using e6);have n7:nxV 18 (dcM m)≠7:=(by simpa using e7);have n8:nxV 18 (dcM m)≠8:=(by simpa using e8);have n9:nxV 18 (dcM m)≠9:=(by simpa using e9);have n10:nxV 18 (dcM m)≠10:=(by simpa using e10);simp only[decide_eq_true_eq];omega
 cases e11:(nxV 18 (dcM m)==11) with
 |true=>
  have z0:=E7 (j:=4) o1 (by decide)
  have x1:=CL (okM.mono o1 (by omega))
  have x1o:=x1.okd o1
  have y1n:=SE (nxV 4 (nxM (dcM m)))
  have z1:=E7 (j:=9) x1o (by decide)
  have x2:=CL (okM.mono x1o (by omega))
  have x2o:=x2.okd x1o
  have y2:=Px (IntKind.i64.wrap (nxV 4 (nxM (dcM m))+IntKind.i64.wrap ((nxV 9 (nxM (nxM (dcM m)))).tdiv 8))) s (nxM (nxM (nxM (dcM m))))
  have x3:=SD (t:=IntKind.i64.wrap (nxV 4 (nxM (dcM m))+IntKind.i64.wrap ((nxV 9 (nxM (nxM (dcM m)))).tdiv 8))) (s:=s) (okM.mono x2o (by omega))
  have x3o:=x3.okd x2o
  have h11:(nxV 18 (dcM m)==11)=true:=e11
  have hr:stT d.toNat s m=VO B s m:=by rw[hS];unfold stB;rw[if_neg hn,if_neg h0,if_neg h3,if_neg h4,if_neg h5,if_neg h6,if_neg h7,if_neg h8,if_neg h9,if_pos h11]
  simp only[seval,go_sem,eN,e0,e1,e2,e3,e4,e5,e6,e7,e8,e9,e10,e11]
  repeat' first|exact ck|with_reducible apply And.intro|intro _
  all_goals first|(refine okM.mono (by assumption) ?_;omega)|exact z0|exact z0.1|exact z1|exact z1.1|exact g0|exact g1|exact g2|(omega)|(simp only[jL3]at *;omega)|exact KZ|(refine A1 [] ?_;simp only[seval,go_sem,bne,EM,EN,hr,VO])
 |false=>
 have h11:¬(nxV 18 (dcM m)==11)=true:=by rw[e11];decide
 cases e12:(nxV 18 (dcM m)==12) with
 |true=>
  have y0:=DW 1 (nxM (dcM m))
  have x1:=Ea 1 (okM.mono o1 (by omega))
  have x1o:=x1.okd o1
  have h12:(nxV 18 (dcM m)==12)=true:=e12
  have hr:stT d.toNat s m=VP B s m:=by rw[hS];unfold stB;rw[if_neg hn,if_neg h0,if_neg h3,if_neg h4,if_neg h5,if_neg h6,if_neg h7,if_neg h8,if_neg h9,if_neg h11,if_pos h12]
  simp only[seval,go_sem,eN,e0,e1,e2,e3,e4,e5,e6,e7,e8,e9,e10,e11,e12]
  repeat' first|exact ck|with_reducible apply And.intro|intro _
  all_goals first|(refine okM.mono (by assumption) ?_;omega)|exact g0|exact g1|exact g2|(omega)|(simp only[jL3]at *;omega)|exact KZ|(refine A1 [] ?_;simp only[seval,go_sem,bne,EM,EN,hr,VP])
 |false=>
 have h12:¬(nxV 18 (dcM m)==12)=true:=by rw[e12];decide
 cases e13:(nxV 18 (dcM m)==13) with
 |true=>
  have y0:=HY 1 s (nxM (dcM m))
  have x1:=Ir 1 (s:=s) (okM.mono o1 (by omega))
  have x1o:=x1.okd o1
  have h13:(nxV 18 (dcM m)==13)=true:=e13
  have hr:stT d.toNat s m=VQ B s m:=by rw[hS];unfold stB;rw[if_neg hn,if_neg h0,if_neg h3,if_neg h4,if_neg h5,if_neg h6,if_neg h7,if_neg h8,if_neg h9,if_neg h11,if_neg h12,if_pos h13]
  simp only[seval,go_sem,eN,e0,e1,e2,e3,e4,e5,e6,e7,e8,e9,e10,e11,e12,e13]
  repeat' first|exact ck|with_reducible apply And.intro|intro _
  all_goals first|(refine okM.mono (by assumption) ?_;omega)|exact g0|exact g1|exact g2|(omega)|(simp only[jL3]at *;omega)|exact KZ|(refine A1 [] ?_;simp only[seval,go_sem,bne,EM,EN,hr,VQ])
 |false=>
 have h13:¬(nxV 18 (dcM m)==13)=true:=by rw[e13];decide
 cases hd0:decide (d<=0) with
 |true=>
  have hz:d.toNat=0:=by have:=of_decide_eq_true hd0;omega
  have hS0:stT d.toNat s m=stB false (λm=>([],m)) s m:=by rw[hz];rfl
  have y0:=Dx (nxM (dcM m))
  have x1:=Fs (okM.mono o1 (by omega))
  have x1o:=x1.okd o1
  have y1:=DW 1 (BB (nxM (dcM m))).2
  have x2:=Ea 1 (okM.mono x1o (by omega))
  have x2o:=x2.okd x1o
  have hr:stT d.toNat s m=Qz (λm=>([],m)) s m:=by rw[hS0];unfold stB;rw[if_neg hn,if_neg h0,if_neg h3,if_neg h4,if_neg h5,if_neg h6,if_neg h7,if_neg h8,if_neg h9,if_neg h11,if_neg h12,if_neg h13,if_pos (show (!false)=true from rfl)]
  simp only[seval,go_sem,eN,e0,e1,e2,e3,e4,e5,e6,e7,e8,e9,e10,e11,e12,e13,hd0]
  repeat' first|exact ck|with_reducible apply And.intro|intro _
  all_goals first|(refine okM.mono (by assumption) ?_;omega)|exact g0|exact g1|exact g2|(omega)|(simp only[jL3]at *;omega)|exact KZ|(refine A1 [] ?_;simp only[seval,go_sem,bne,EM,EN,hr,Qz])
 |false=>
 have hz:d.toNat=(d-1).toNat+1:=by have:=of_decide_eq_false hd0;omega
 have hS1:stT d.toNat s m=stB true (IF (stT (d-1).toNat s)) s m:=by rw[hz];rfl
 obtain⟨K,hK⟩:∃K:Int,K=1+3*stC (d-1).toNat:=⟨_,rfl⟩
 have c8:=SF (d-1).toNat
 have hL:=VU (d-1).toNat (by omega)
 have g3:1<=d:=by have:=of_decide_eq_false hd0;omega
 have g4:d-1<(n:Int):=by omega
 have hC:stC d.toNat=60+2*K:=by rw[hz,hK];rfl
 have oK:okM (nxM (dcM m)) (59+2*K):=a1.ok (okM.mono oD (by omega))
 have hB:∀q,okM q K->Ax q ((IF (stT (d-1).toNat s)) q).2 K:=by rw[hK];exact λq hq=>im (by omega) (λr hr=>VV _ hr) q hq
 have hBl:∀q,((IF (stT (d-1).toNat s)) q).1.length<=4+3*stL (d-1).toNat:=λq=>dE (λr=>Pz _ s r) q
 have hdp:¬(!true)=true:=by decide
 cases ei:(nxV 2 (nxM (dcM m))==0) with
 |true=>
  cases ee:(nxV 2 ((IF (stT (d-1).toNat s)) (B4 1 s (nxM (nxM (dcM m)))).2).2==0) with
  |true=>
   have hel:(stV (IF (stT (d-1).toNat s)) s m==0)=true:=ee
   have z0:=E7 (j:=2) oK (by decide)
   have x1:=CL (okM.mono oK (by omega))
   have x1o:=x1.okd oK
   have y1:=HY 1 s (nxM (nxM (dcM m)))
   have x2:=Ir 1 (s:=s) (okM.mono x1o (by omega))
   have x2o:=x2.okd x1o
   have y2:=hBl (B4 1 s (nxM (nxM (dcM m)))).2
   have x3:=hB _ (okM.mono x2o (by omega))
   have x3o:=x3.okd x2o
   have z3:=E7 (j:=2) x3o (by decide)
   have x4:=CL (okM.mono x3o (by omega))
   have x4o:=x4.okd x3o
   have y4:=hBl (nxM ((IF (stT (d-1).toNat s)) (B4 1 s (nxM (nxM (dcM m)))).2).2)
   have x5:=hB _ (okM.mono x4o (by omega))
   have x5o:=x5.okd x4o
   have hr:stT d.toNat s m=R0 (IF (stT (d-1).toNat s)) s m:=by rw[hS1];unfold stB;rw[if_neg hn,if_neg h0,if_neg h3,if_neg h4,if_neg h5,if_neg h6,if_neg h7,if_neg h8,if_neg h9,if_neg h11,if_neg h12,if_neg h13,if_neg hdp,if_pos ei,if_pos hel]
   simp only[seval,go_sem,eN,e0,e1,e2,e3,e4,e5,e6,e7,e8,e9,e10,e11,e12,e13,hd0,ei,ee]
   repeat' first|exact ck|with_reducible apply And.intro|intro _
   all_goals first|(refine okM.mono (by assumption) ?_;omega)|exact z0|exact z0.1|exact z3|exact z3.1|exact g0|exact g1|exact g2|(omega)|(simp only[jL3]at *;omega)|exact KZ|(refine A1 [] ?_;simp only[seval,go_sem,bne,EM,EN,hr,R0])
  |false=>
  have hel:¬(stV (IF (stT (d-1).toNat s)) s m==0)=true:=by rw[show (stV (IF (stT (d-1).toNat s)) s m==0)=false from ee];decide
  have z0:=E7 (j:=2) oK (by decide)
  have x1:=CL (okM.mono oK (by omega))
  have x1o:=x1.okd oK
  have y1:=HY 1 s (nxM (nxM (dcM m)))
  have x2:=Ir 1 (s:=s) (okM.mono x1o (by omega))
  have x2o:=x2.okd x1o
  have y2:=hBl (B4 1 s (nxM (nxM (dcM m)))).2
  have x3:=hB _ (okM.mono x2o (by omega))
  have x3o:=x3.okd x2o
  have z3:=E7 (j:=2) x3o (by decide)
  have x4:=CL (okM.mono x3o (by omega))
  have x4o:=x4.okd x3o
  have hr:stT d.toNat s m=VS (IF (stT (d-1).toNat s)) s m:=by rw[hS1];unfold stB;rw[if_neg hn,if_neg h0,if_neg h3,if_neg h4,if_neg h5,if_neg h6,if_neg h7,if_neg h8,if_neg h9,if_neg h11,if_neg h12,if_neg h13,if_neg hdp,if_pos ei,if_neg hel]
  simp only[seval,go_sem,eN,e0,e1,e2,e3,e4,e5,e6,e7,e8,e9,e10,e11,e12,e13,hd0,ei,ee]
  repeat' first|exact ck|with_reducible apply And.intro|intro _
  all_goals first|(refine okM.mono (by assumption) ?_;omega)|exact z0|exact z0.1|exact z3|exact z3.1|exact g0|exact g1|exact g2|(omega)|(simp only[jL3]at *;omega)|exact KZ|(refine A1 [] ?_;simp only[seval,go_sem,bne,EM,EN,hr,VS])
 |false=>
 have hif:¬(nxV 2 (nxM (dcM m))==0)=true:=by rw[ei];decide
 have z0:=E7 (j:=2) oK (by decide)
 have x1:=CL (okM.mono oK (by omega))
 have x1o:=x1.okd oK
 have y1:=HY 1 s (nxM (nxM (dcM m)))
 have x2:=Ir 1 (s:=s) (okM.mono x1o (by omega))
 have x2o:=x2.okd x1o
 have y2:=hBl (B4 1 s (nxM (nxM (dcM m)))).2
 have x3:=hB _ (okM.mono x2o (by omega))
 have x3o:=x3.okd x2o
 have hr:stT d.toNat s m=P0 (IF (stT (d-1).toNat s)) s m:=by rw[hS1];unfold stB;rw[if_neg hn,if_neg h0,if_neg h3,if_neg h4,if_neg h5,if_neg h6,if_neg h7,if_neg h8,if_neg h9,if_neg h11,if_neg h12,if_neg h13,if_neg hdp,if_neg hif]
 simp only[seval,go_sem,eN,e0,e1,e2,e3,e4,e5,e6,e7,e8,e9,e10,e11,e12,e13,hd0,ei]
 repeat' first|exact ck|with_reducible apply And.intro|intro _
 all_goals first|(refine okM.mono (by assumption) ?_;omega)|exact z0|exact z0.1|exact g0|exact g1|exact g2|(omega)|(simp only[jL3]at *;omega)|exact KZ|(refine A1 [] ?_;simp only[seval,go_sem,bne,EM,EN,hr,P0])
theorem TA:∀n:Nat,O3 n
 |0=>by
  rintro ⟨m,s,d,_u⟩ w M I lab fz xs hc hA hl hx
  exact AAp
 |n+1=>nA n (TA n)
end Go.Proofs.YtapedeoheilnnaaGreat
