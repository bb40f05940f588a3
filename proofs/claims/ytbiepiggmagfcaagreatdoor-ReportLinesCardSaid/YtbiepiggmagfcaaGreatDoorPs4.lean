/- print: statements, blocks. Conditions: the statements are of known kinds, the numbers are of 64 bits, the text is shorter than 10^9 bytes; the table of powers of ten is laid. -/
import Derived.Test.YtbiepiggmagfcaaGreatDoorPs2
set_option linter.unusedVariables false
set_option linter.unusedSimpArgs false
set_option maxRecDepth 20000
set_option maxHeartbeats 16000000
open List (length_append length_cons length_nil append_assoc append_nil flatten_cons flatten_nil)
namespace Go.Proofs.YtbiepiggmagfcaaGreatDoor
open Go Go.Sy Go.RowKit
theorem Zk:zSm.length=10:=rfl
theorem fq {l:List Sm} {i:Nat} {k no:Int} {x y:List UInt8} {e f:Ex} {c:Cd} {ar:List Ar} {th el:List Sm} (h:l[i]?=some (.mk k x y e f c ar th el no)) (z:List D):(l.map Sm.r).getD i z=[dI k,dS x,dS y,e.d,f.d,c.d,.sl zAr (ar.map Ar.r),.sl zSm (th.map Sm.r),.sl zSm (el.map Sm.r),dI no]:=by simp[List.getD,h,bG,Sm.k,Sm.x,Sm.y,Sm.e,Sm.f,Sm.cd,Sm.ar,Sm.th,Sm.el,Sm.no]
theorem kP {b:Bd} (h1:b.r.length=1) (h2:b.u=true):∃d t,b=⟨true,t,[d]⟩:=by
 obtain⟨u,t,r⟩:=b
 obtain⟨d,rfl⟩:∃d:Int,r=[d]:=List.length_eq_one_iff.1 h1
 obtain rfl:u=true:=h2
 exact⟨d,t,rfl⟩
theorem XN {l:List Sm} {i:Nat} {s:Sm} (h:l[i]?=some s) (d:Nat):lnX (lnB d (l.take (i+1)))=lnX (lnB d (l.take i))++lnX (lnS d s):=by
 rw[List.take_add_one,h,← Bb,← Li];rfl
theorem qw (d:Nat) (l m:List Sm):lnB d (l++m)=lnB d l++lnB d m:=by
 induction l with
 |nil=>rfl
 |cons a l ih=>rw[List.cons_append,FY,ih,FY,append_assoc]
theorem Zl {l:List Sm} {i:Nat} {s:Sm} (h:l[i]?=some s) (d:Nat):(lnX (lnB d (l.take i))).length+(lnX (lnS d s)).length≤(lnX (lnB d l)).length:=by
 have h1:lnB d l=lnB d (l.take (i+1))++lnB d (l.drop (i+1)):=by rw[← qw,List.take_append_drop]
 have h2:=congrArg List.length (XN h d)
 rw[h1,MY]
 rw[length_append]at h2
 omega
theorem As (d:Nat) (l:List (List UInt8)):(BL d l).length=d+l.flatten.length+1:=by simp only[BL,length_append,List.length_replicate,length_cons,length_nil]
theorem Du (d:Nat) (l:List (List UInt8)):∀s∈l,s.length≤(BL d l).length:=by
 intro s hs
 have:s.length≤l.flatten.length:=by
  induction l with
  |nil=>cases hs
  |cons a l ih=>
   rw[flatten_cons,length_append]
   rcases List.mem_cons.1 hs with rfl|h
   ·omega
   ·have:=ih h;omega
 rw[As];omega
theorem BM (d:Nat) (ps:List (List UInt8)) (n:Int) (l:List Ln):lnX (lnO d ps.flatten n::l)=BL d ps++lnX l:=by simp[lnX,lnO,BL,tbs]
theorem Qg (d:Nat) (l:List Ln):lnX (lnO d [125,32,101,108,115,101,32,123] (-1)::l)=BL d [[125,32,101,108,115,101,32,123]]++lnX l:=by simp[lnX,lnO,BL,tbs]
theorem Dv (d:Nat) (l:List Ln):lnX (lnO d [125] (-1)::l)=BL d [[125]]++lnX l:=by simp[lnX,lnO,BL,tbs]
theorem fr (a:Sm) (l:List Sm):decide ((0:Int)<(((a::l).length:Nat):Int))=true:=by simp only[length_cons,decide_eq_true_eq];omega
abbrev Jy (n:Nat) (m:Nat) (b:Bd) (l:List Sm):Prop:=b.r.length=1∧b.u=true∧0≤dep b∧dep b+m≤1000000∧Cp n m l∧b.t.length+(lnX (lnB (dep b).toNat l)).length≤1000000000
abbrev Jz (n:Nat) (m:Nat) (b:Bd) (l:List Sm):SV:=.tup []
abbrev FZ (n:Nat) (m:Nat) (b:Bd) (l:List Sm):List (Option MV):=[some (tgN 111 3,[({ b with t:=b.t++lnX (lnB (dep b).toNat l) }:Bd).c])]
noncomputable abbrev Fa (n:Nat) (m:Nat):ArgN ((Bd)×(List Sm)×Unit):=(amB (rBd 111 1) (amD (cSs) am0))
abbrev HR (n:Nat) (m:Nat):Prop:=Ft Tryz.prog 48 AY CX (Fa n m).args (Fa n m).mem (fun p:(Bd)×(List Sm)×Unit=>Jy n m p.1 p.2.1) (fun p:(Bd)×(List Sm)×Unit=>Jz n m p.1 p.2.1) (fun p:(Bd)×(List Sm)×Unit=>FZ n m p.1 p.2.1)
theorem fu (n:Nat) (m:Nat):∀p,(fun p:(Bd)×(List Sm)×Unit=>Jy n m p.1 p.2.1) p→BA ((Fa n m).mem p).length ((fun p:(Bd)×(List Sm)×Unit=>FZ n m p.1 p.2.1) p)=true:=by intro p _;rfl
theorem fv (n:Nat) (m:Nat):∀p,(fun p:(Bd)×(List Sm)×Unit=>Jy n m p.1 p.2.1) p→AQ ((fun p:(Bd)×(List Sm)×Unit=>FZ n m p.1 p.2.1) p).length ((fun p:(Bd)×(List Sm)×Unit=>Jz n m p.1 p.2.1) p)=true:=by intro p _;rfl
theorem fw (n:Nat) (m:Nat):∀p,(fun p:(Bd)×(List Sm)×Unit=>Jy n m p.1 p.2.1) p→∀(i:Nat) q,((fun p:(Bd)×(List Sm)×Unit=>FZ n m p.1 p.2.1) p)[i]?=some (some q)→∀r∈q.2,∀c∈r,cOK i c:=by intro p _;exact HI _ _
noncomputable def HS {X:Ctx} {w0:World} (n:Nat) (m:Nat) (h:HR n m) (hG:BB X w0 AY CX):Sy.Spec Tryz.prog X w0:=Gd 48 Tryz.call48 AY CX (Fa n m) (fun p:(Bd)×(List Sm)×Unit=>Jy n m p.1 p.2.1) (fun p:(Bd)×(List Sm)×Unit=>Jz n m p.1 p.2.1) (fun p:(Bd)×(List Sm)×Unit=>FZ n m p.1 p.2.1) (fu n m) (fv n m) (fw n m) h hG
abbrev K0 (n:Nat) (m:Nat) (b:Bd) (l:List Sm):Prop:=b.r.length=1∧b.u=true∧0≤dep b∧dep b+1+m≤1000000∧Cp n m l∧b.t.length+(lnX (lnB ((dep b).toNat+1) l)).length≤1000000000
abbrev K1 (n:Nat) (m:Nat) (b:Bd) (l:List Sm):SV:=.tup []
abbrev Fb (n:Nat) (m:Nat) (b:Bd) (l:List Sm):List (Option MV):=[some (tgN 111 3,[({ b with t:=b.t++lnX (lnB ((dep b).toNat+1) l) }:Bd).c])]
noncomputable abbrev Fc (n:Nat) (m:Nat):ArgN ((Bd)×(List Sm)×Unit):=(amB (rBd 111 1) (amD (cSs) am0))
abbrev VE (n:Nat) (m:Nat):Prop:=Ft Tryz.prog 103 AY CX (Fc n m).args (Fc n m).mem (fun p:(Bd)×(List Sm)×Unit=>K0 n m p.1 p.2.1) (fun p:(Bd)×(List Sm)×Unit=>K1 n m p.1 p.2.1) (fun p:(Bd)×(List Sm)×Unit=>Fb n m p.1 p.2.1)
theorem fy (n:Nat) (m:Nat):∀p,(fun p:(Bd)×(List Sm)×Unit=>K0 n m p.1 p.2.1) p→BA ((Fc n m).mem p).length ((fun p:(Bd)×(List Sm)×Unit=>Fb n m p.1 p.2.1) p)=true:=by intro p _;rfl
theorem gA (n:Nat) (m:Nat):∀p,(fun p:(Bd)×(List Sm)×Unit=>K0 n m p.1 p.2.1) p→AQ ((fun p:(Bd)×(List Sm)×Unit=>Fb n m p.1 p.2.1) p).length ((fun p:(Bd)×(List Sm)×Unit=>K1 n m p.1 p.2.1) p)=true:=by intro p _;rfl
theorem gB (n:Nat) (m:Nat):∀p,(fun p:(Bd)×(List Sm)×Unit=>K0 n m p.1 p.2.1) p→∀(i:Nat) q,((fun p:(Bd)×(List Sm)×Unit=>Fb n m p.1 p.2.1) p)[i]?=some (some q)→∀r∈q.2,∀c∈r,cOK i c:=by intro p _;exact HI _ _
noncomputable def VF {X:Ctx} {w0:World} (n:Nat) (m:Nat) (h:VE n m) (hG:BB X w0 AY CX):Sy.Spec Tryz.prog X w0:=Gd 103 Tryz.call103 AY CX (Fc n m) (fun p:(Bd)×(List Sm)×Unit=>K0 n m p.1 p.2.1) (fun p:(Bd)×(List Sm)×Unit=>K1 n m p.1 p.2.1) (fun p:(Bd)×(List Sm)×Unit=>Fb n m p.1 p.2.1) (fy n m) (gA n m) (gB n m) h hG
attribute [local go_sem] Sm.ar Sm.c Sm.cd Sm.e Sm.el Sm.f Sm.k Sm.no Sm.th Sm.x Sm.y adC Kf Kg MF MH T3 QV QW Hs Jr KT KU QY QX KW KV inK Zk MC Jk Jm Hh Hi Jj Jl MB JA Dn Zj QT VF G5
theorem kQ (n:Nat) (m:Nat) (hS:HR n m):VE n m:=by
 rintro ⟨b,l,_u⟩ w M I lab fz xs hT hBk hc hA hl hx
 have hG:=MR Br hT hBk (fz:=fz) (I:=I) (n:=1)
 refine Eb 1 Tryz.func103 rfl _ rfl w M I lab fz [(HS n m hS hG)] [] _ _ _ xs hA hl hx ((Fc n m).an ⟨b,l,_u⟩) (jN rfl) (jN rfl) ?_
 clear hx hl hA xs
 simp only[Tryz.f103]
 obtain⟨hm,hu,hd0,hd1,hk,hlen⟩:=hc
 obtain⟨d,t,rfl⟩:=kP hm hu
 rw[BZ]at hd0 hd1 hlen
 obtain⟨i,rfl⟩:∃i:Nat,d=(i:Int):=⟨d.toNat,by omega⟩
 rw[Int.toNat_natCast]at hlen
 have w1:IntKind.i64.wrap ((i:Int)+1)=((i+1:Nat):Int):=by rw[wrap_i64 (by omega) (by omega)];rfl
 have w2:IntKind.i64.wrap (((i+1:Nat):Int)-1)=(i:Int):=by rw[wrap_i64 (by omega) (by omega)];omega
 have q2:((i+1:Nat):Int)+m≤1000000:=by omega
 have q3:(0:Int)≤((i+1:Nat):Int):=by omega
 simp only[↓eB,seval,go_sem,HS,w1,w2]
 try simp only[A1,A2]
 repeat' first|exact ck|with_reducible apply And.intro|intro _
 all_goals first|exact hm|exact hu|exact hk|exact q2|exact q3|exact hlen|(rename_i h;first|exact oI h|exact nah h)|(rename_i _ h _ g;exact sL h g)|decide|omega|(refine A0 [] ?_;simp only[↓eB,seval,go_sem,bne,K1,Fb,BZ])
theorem PrS.dp {n:Nat} {s:Sm} (h:PrS n s):∀a∈s.ar,a.e.dp<n∧okN a.e:=fun a ha=>⟨h.ok.a a ha,h.a a ha⟩
abbrev Lj (n:Nat) (m:Nat) (b:Bd) (s:Sm):Prop:=b.r.length=1∧b.u=true∧0≤dep b∧dep b+1+m≤1000000∧(PrS n s∧Cp n m s.th∧Cp n m s.el)∧b.t.length+(lnX (lnS (dep b).toNat s)).length≤1000000000
abbrev Bx (n:Nat) (m:Nat) (b:Bd) (s:Sm):SV:=.tup []
abbrev Bm (n:Nat) (m:Nat) (b:Bd) (s:Sm):List (Option MV):=[some (tgN 111 3,[({ b with t:=b.t++lnX (lnS (dep b).toNat s) }:Bd).c])]
noncomputable abbrev Gw (n:Nat) (m:Nat):ArgN ((Bd)×(Sm)×Unit):=(amB (rBd 111 1) (amD (cSm) am0))
abbrev XO (n:Nat) (m:Nat):Prop:=Ft Tryz.prog 82 AY CX (Gw n m).args (Gw n m).mem (fun p:(Bd)×(Sm)×Unit=>Lj n m p.1 p.2.1) (fun p:(Bd)×(Sm)×Unit=>Bx n m p.1 p.2.1) (fun p:(Bd)×(Sm)×Unit=>Bm n m p.1 p.2.1)
theorem kR (n:Nat) (m:Nat):∀p,(fun p:(Bd)×(Sm)×Unit=>Lj n m p.1 p.2.1) p→BA ((Gw n m).mem p).length ((fun p:(Bd)×(Sm)×Unit=>Bm n m p.1 p.2.1) p)=true:=by intro p _;rfl
theorem kS (n:Nat) (m:Nat):∀p,(fun p:(Bd)×(Sm)×Unit=>Lj n m p.1 p.2.1) p→AQ ((fun p:(Bd)×(Sm)×Unit=>Bm n m p.1 p.2.1) p).length ((fun p:(Bd)×(Sm)×Unit=>Bx n m p.1 p.2.1) p)=true:=by intro p _;rfl
theorem kT (n:Nat) (m:Nat):∀p,(fun p:(Bd)×(Sm)×Unit=>Lj n m p.1 p.2.1) p→∀(i:Nat) q,((fun p:(Bd)×(Sm)×Unit=>Bm n m p.1 p.2.1) p)[i]?=some (some q)→∀r∈q.2,∀c∈r,cOK i c:=by intro p _;exact HI _ _
noncomputable def RZ {X:Ctx} {w0:World} (n:Nat) (m:Nat) (h:XO n m) (hG:BB X w0 AY CX):Sy.Spec Tryz.prog X w0:=Gd 82 Tryz.call82 AY CX (Gw n m) (fun p:(Bd)×(Sm)×Unit=>Lj n m p.1 p.2.1) (fun p:(Bd)×(Sm)×Unit=>Bx n m p.1 p.2.1) (fun p:(Bd)×(Sm)×Unit=>Bm n m p.1 p.2.1) (kR n m) (kS n m) (kT n m) h hG
theorem Zm (n:Nat) (m:Nat) (hS:HR n m):XO n m:=by
 rintro ⟨b,s,_u⟩ w M I lab fz xs hT hBk hc hA hl hx
 have hG:=MR Br hT hBk (fz:=fz) (I:=I) (n:=1)
 refine Eb 1 Tryz.func82 rfl _ rfl w M I lab fz [(Dn n (Pa n) hG),(JA n (gM n) hG),(Zj n (xT n) hG),(G5 (BC _ _)),(VF n m (kQ n m hS) hG)] [] _ _ _ xs hA hl hx ((Gw n m).an ⟨b,s,_u⟩) (jN rfl) (jN rfl) ?_
 clear hx hl hA xs
 simp only[Tryz.f82]
 obtain⟨hm,hu,hd0,hd1,⟨hk,hth,hel⟩,hlen⟩:=hc
 obtain⟨d,t,rfl⟩:=kP hm hu
 rw[BZ]at hd0 hd1 hlen
 have hds:=hk.dp
 have hd2:d≤1000000:=by omega
 obtain⟨hok,k0,k1,ne,nf,nc,na⟩:=hk
 have e1:=hok.e
 have e2:=hok.f
 have e3:=hok.c
 have e5:=hok.l
 rw[BJ]at hlen
 obtain⟨k,x,y,e,f,c,ar,th,el,no⟩:=s
 dsimp only[Sm.k,Sm.e,Sm.f,Sm.cd,Sm.ar,Sm.th,Sm.el]at k0 k1 ne nf nc na e1 e2 e3 e5 hlen hds hth hel ⊢
 rcases xS k0 k1 with rfl|rfl|rfl|rfl|rfl|rfl|rfl|rfl|rfl|rfl|rfl|rfl|rfl
 ·simp only[Int.reduceBEq,if_true,if_false,jB,PX,BM,AO,append_nil]at hlen
  have l0:=As d.toNat [x,[32,61,32],exT e,[59]]
  have l1:t.length+d.toNat+([x,[32,61,32],exT e,[59]]:List (List UInt8)).flatten.length+1≤100000000000000:=by omega
  have l2:=Du d.toNat [x,[32,61,32],exT e,[59]]
  simp only[List.mem_cons,List.not_mem_nil,or_false,forall_eq_or_imp,forall_eq]at l2
  simp only[↓eB,seval,go_sem]
  try simp only[A1,A2]
  repeat' first|exact ck|with_reducible apply And.intro|intro _
  all_goals first|exact hm|exact hu|exact hd0|exact hd2|exact hth|exact hel|exact e1|exact e2|exact e3|exact ne|exact nf|exact nc|(rename_i h;exact(hds _ h).1)|(rename_i h;exact(hds _ h).2)|exact e5|exact l1|exact hlen|(exact jN rfl)|(rename_i h;first|exact oI h|exact nah h)|(rename_i _ h _ g;exact sL h g)|decide|omega|(refine A0 [] ?_;simp only[↓eB,seval,go_sem,bne,Bx,Bm,BJ,Int.reduceBEq,PX,BM,AO,BZ])
 ·simp only[Int.reduceBEq,if_true,if_false,jB,RS,BM,AO,append_nil]at hlen
  have l0:=As d.toNat [x,[32,61,32,38],y,[59]]
  have l1:t.length+d.toNat+([x,[32,61,32,38],y,[59]]:List (List UInt8)).flatten.length+1≤100000000000000:=by omega
  have l2:=Du d.toNat [x,[32,61,32,38],y,[59]]
  simp only[List.mem_cons,List.not_mem_nil,or_false,forall_eq_or_imp,forall_eq]at l2
  simp only[↓eB,seval,go_sem]
  try simp only[A1,A2]
  repeat' first|exact ck|with_reducible apply And.intro|intro _
  all_goals first|exact hm|exact hu|exact hd0|exact hd2|exact hth|exact hel|exact e1|exact e2|exact e3|exact ne|exact nf|exact nc|(rename_i h;exact(hds _ h).1)|(rename_i h;exact(hds _ h).2)|exact e5|exact l1|exact hlen|(exact jN rfl)|(rename_i h;first|exact oI h|exact nah h)|(rename_i _ h _ g;exact sL h g)|decide|omega|(refine A0 [] ?_;simp only[↓eB,seval,go_sem,bne,Bx,Bm,BJ,Int.reduceBEq,RS,BM,AO,BZ])
 ·simp only[Int.reduceBEq,if_true,if_false,jB,XJ,BM,AO,append_nil]at hlen
  have l0:=As d.toNat [x,[32,61,32],y,[59]]
  have l1:t.length+d.toNat+([x,[32,61,32],y,[59]]:List (List UInt8)).flatten.length+1≤100000000000000:=by omega
  have l2:=Du d.toNat [x,[32,61,32],y,[59]]
  simp only[List.mem_cons,List.not_mem_nil,or_false,forall_eq_or_imp,forall_eq]at l2
  simp only[↓eB,seval,go_sem]
  try simp only[A1,A2]
  repeat' first|exact ck|with_reducible apply And.intro|intro _
  all_goals first|exact hm|exact hu|exact hd0|exact hd2|exact hth|exact hel|exact e1|exact e2|exact e3|exact ne|exact nf|exact nc|(rename_i h;exact(hds _ h).1)|(rename_i h;exact(hds _ h).2)|exact e5|exact l1|exact hlen|(exact jN rfl)|(rename_i h;first|exact oI h|exact nah h)|(rename_i _ h _ g;exact sL h g)|decide|omega|(refine A0 [] ?_;simp only[↓eB,seval,go_sem,bne,Bx,Bm,BJ,Int.reduceBEq,XJ,BM,AO,BZ])
 ·simp only[Int.reduceBEq,if_true,if_false,jB,RT,BM,AO,append_nil]at hlen
  have l0:=As d.toNat [x,[32,61,32,110,117,108,108,59]]
  have l1:t.length+d.toNat+([x,[32,61,32,110,117,108,108,59]]:List (List UInt8)).flatten.length+1≤100000000000000:=by omega
  have l2:=Du d.toNat [x,[32,61,32,110,117,108,108,59]]
  simp only[List.mem_cons,List.not_mem_nil,or_false,forall_eq_or_imp,forall_eq]at l2
  simp only[↓eB,seval,go_sem]
  try simp only[A1,A2]
  repeat' first|exact ck|with_reducible apply And.intro|intro _
  all_goals first|exact hm|exact hu|exact hd0|exact hd2|exact hth|exact hel|exact e1|exact e2|exact e3|exact ne|exact nf|exact nc|(rename_i h;exact(hds _ h).1)|(rename_i h;exact(hds _ h).2)|exact e5|exact l1|exact hlen|(exact jN rfl)|(rename_i h;first|exact oI h|exact nah h)|(rename_i _ h _ g;exact sL h g)|decide|omega|(refine A0 [] ?_;simp only[↓eB,seval,go_sem,bne,Bx,Bm,BJ,Int.reduceBEq,RT,BM,AO,BZ])
 ·simp only[Int.reduceBEq,if_true,if_false,jB,RU,BM,AO,append_nil]at hlen
  have l0:=As d.toNat [x,[32,61,32,42],y,[59]]
  have l1:t.length+d.toNat+([x,[32,61,32,42],y,[59]]:List (List UInt8)).flatten.length+1≤100000000000000:=by omega
  have l2:=Du d.toNat [x,[32,61,32,42],y,[59]]
  simp only[List.mem_cons,List.not_mem_nil,or_false,forall_eq_or_imp,forall_eq]at l2
  simp only[↓eB,seval,go_sem]
  try simp only[A1,A2]
  repeat' first|exact ck|with_reducible apply And.intro|intro _
  all_goals first|exact hm|exact hu|exact hd0|exact hd2|exact hth|exact hel|exact e1|exact e2|exact e3|exact ne|exact nf|exact nc|(rename_i h;exact(hds _ h).1)|(rename_i h;exact(hds _ h).2)|exact e5|exact l1|exact hlen|(exact jN rfl)|(rename_i h;first|exact oI h|exact nah h)|(rename_i _ h _ g;exact sL h g)|decide|omega|(refine A0 [] ?_;simp only[↓eB,seval,go_sem,bne,Bx,Bm,BJ,Int.reduceBEq,RU,BM,AO,BZ])
 ·simp only[Int.reduceBEq,if_true,if_false,jB,RV,BM,AO,append_nil]at hlen
  have l0:=As d.toNat [[42],x,[32,61,32],exT e,[59]]
  have l1:t.length+d.toNat+([[42],x,[32,61,32],exT e,[59]]:List (List UInt8)).flatten.length+1≤100000000000000:=by omega
  have l2:=Du d.toNat [[42],x,[32,61,32],exT e,[59]]
  simp only[List.mem_cons,List.not_mem_nil,or_false,forall_eq_or_imp,forall_eq]at l2
  simp only[↓eB,seval,go_sem]
  try simp only[A1,A2]
  repeat' first|exact ck|with_reducible apply And.intro|intro _
  all_goals first|exact hm|exact hu|exact hd0|exact hd2|exact hth|exact hel|exact e1|exact e2|exact e3|exact ne|exact nf|exact nc|(rename_i h;exact(hds _ h).1)|(rename_i h;exact(hds _ h).2)|exact e5|exact l1|exact hlen|(exact jN rfl)|(rename_i h;first|exact oI h|exact nah h)|(rename_i _ h _ g;exact sL h g)|decide|omega|(refine A0 [] ?_;simp only[↓eB,seval,go_sem,bne,Bx,Bm,BJ,Int.reduceBEq,RV,BM,AO,BZ])
 ·simp only[Int.reduceBEq,if_true,if_false,jB,RW,BM,AO,append_nil]at hlen
  have l0:=As d.toNat [x,[32,61,32],y,[91],exT e,[93,59]]
  have l1:t.length+d.toNat+([x,[32,61,32],y,[91],exT e,[93,59]]:List (List UInt8)).flatten.length+1≤100000000000000:=by omega
  have l2:=Du d.toNat [x,[32,61,32],y,[91],exT e,[93,59]]
  simp only[List.mem_cons,List.not_mem_nil,or_false,forall_eq_or_imp,forall_eq]at l2
  simp only[↓eB,seval,go_sem]
  try simp only[A1,A2]
  repeat' first|exact ck|with_reducible apply And.intro|intro _
  all_goals first|exact hm|exact hu|exact hd0|exact hd2|exact hth|exact hel|exact e1|exact e2|exact e3|exact ne|exact nf|exact nc|(rename_i h;exact(hds _ h).1)|(rename_i h;exact(hds _ h).2)|exact e5|exact l1|exact hlen|(exact jN rfl)|(rename_i h;first|exact oI h|exact nah h)|(rename_i _ h _ g;exact sL h g)|decide|omega|(refine A0 [] ?_;simp only[↓eB,seval,go_sem,bne,Bx,Bm,BJ,Int.reduceBEq,RW,BM,AO,BZ])
 ·simp only[Int.reduceBEq,if_true,if_false,jB,RX,BM,AO,append_nil]at hlen
  have l0:=As d.toNat [y,[91],exT e,[93,32,61,32],exT f,[59]]
  have l1:t.length+d.toNat+([y,[91],exT e,[93,32,61,32],exT f,[59]]:List (List UInt8)).flatten.length+1≤100000000000000:=by omega
  have l2:=Du d.toNat [y,[91],exT e,[93,32,61,32],exT f,[59]]
  simp only[List.mem_cons,List.not_mem_nil,or_false,forall_eq_or_imp,forall_eq]at l2
  simp only[↓eB,seval,go_sem]
  try simp only[A1,A2]
  repeat' first|exact ck|with_reducible apply And.intro|intro _
  all_goals first|exact hm|exact hu|exact hd0|exact hd2|exact hth|exact hel|exact e1|exact e2|exact e3|exact ne|exact nf|exact nc|(rename_i h;exact(hds _ h).1)|(rename_i h;exact(hds _ h).2)|exact e5|exact l1|exact hlen|(exact jN rfl)|(rename_i h;first|exact oI h|exact nah h)|(rename_i _ h _ g;exact sL h g)|decide|omega|(refine A0 [] ?_;simp only[↓eB,seval,go_sem,bne,Bx,Bm,BJ,Int.reduceBEq,RX,BM,AO,BZ])
 ·simp only[Int.reduceBEq,if_true,if_false,jB,J8,BM,AO,append_nil]at hlen
  have l0:=As d.toNat [FX x,y,[40],jnT (ar.map Az),[41,59]]
  have l1:t.length+d.toNat+([FX x,y,[40],jnT (ar.map Az),[41,59]]:List (List UInt8)).flatten.length+1≤100000000000000:=by omega
  have l2:=Du d.toNat [FX x,y,[40],jnT (ar.map Az),[41,59]]
  simp only[List.mem_cons,List.not_mem_nil,or_false,forall_eq_or_imp,forall_eq]at l2
  simp only[↓eB,seval,go_sem]
  try simp only[A1,A2]
  repeat' first|exact ck|with_reducible apply And.intro|intro _
  all_goals first|exact hm|exact hu|exact hd0|exact hd2|exact hth|exact hel|exact e1|exact e2|exact e3|exact ne|exact nf|exact nc|(rename_i h;exact(hds _ h).1)|(rename_i h;exact(hds _ h).2)|exact e5|exact l1|exact hlen|(exact jN rfl)|(rename_i h;first|exact oI h|exact nah h)|(rename_i _ h _ g;exact sL h g)|decide|omega|(refine A0 [] ?_;simp only[↓eB,seval,go_sem,bne,Bx,Bm,BJ,Int.reduceBEq,J8,BM,AO,BZ])
 ·simp only[Int.reduceBEq,if_true,if_false,jB,RY,BM,AO,append_nil]at hlen
  have l0:=As d.toNat [[114,101,116,117,114,110,32],exT e,[59]]
  have l1:t.length+d.toNat+([[114,101,116,117,114,110,32],exT e,[59]]:List (List UInt8)).flatten.length+1≤100000000000000:=by omega
  have l2:=Du d.toNat [[114,101,116,117,114,110,32],exT e,[59]]
  simp only[List.mem_cons,List.not_mem_nil,or_false,forall_eq_or_imp,forall_eq]at l2
  simp only[↓eB,seval,go_sem]
  try simp only[A1,A2]
  repeat' first|exact ck|with_reducible apply And.intro|intro _
  all_goals first|exact hm|exact hu|exact hd0|exact hd2|exact hth|exact hel|exact e1|exact e2|exact e3|exact ne|exact nf|exact nc|(rename_i h;exact(hds _ h).1)|(rename_i h;exact(hds _ h).2)|exact e5|exact l1|exact hlen|(exact jN rfl)|(rename_i h;first|exact oI h|exact nah h)|(rename_i _ h _ g;exact sL h g)|decide|omega|(refine A0 [] ?_;simp only[↓eB,seval,go_sem,bne,Bx,Bm,BJ,Int.reduceBEq,RY,BM,AO,BZ])
 ·obtain⟨j,rfl⟩:∃j:Nat,d=(j:Int):=⟨d.toNat,by omega⟩
  rw[Int.toNat_natCast]at hlen
  have hd3:(j:Int)+1+m≤1000000:=by omega
  cases el with
  |nil=>
   simp only[List.isEmpty_nil,Int.reduceBEq,if_true,if_false,jB,FG,BM,Bb,Dv,AO,append_nil,List.nil_append,length_append]at hlen
   have l0:=As j [[105,102,32,40],coT c,[41,32,123]]
   have l1:t.length+j+([[105,102,32,40],coT c,[41,32,123]]:List (List UInt8)).flatten.length+1≤100000000000000:=by omega
   have l2:=Du j [[105,102,32,40],coT c,[41,32,123]]
   have l3:=As j [[125]]
   simp only[List.mem_cons,List.not_mem_nil,or_false,forall_eq_or_imp,forall_eq]at l2
   simp only[↓eB,seval,go_sem]
   try simp only[A1,A2]
   repeat' first|exact ck|with_reducible apply And.intro|intro _
   all_goals first|exact hm|exact hu|exact hd0|exact hd2|exact hd3|exact hth|exact hel|exact e3|exact nc|exact l1|(simp only[length_append,flatten_cons,flatten_nil,length_cons,length_nil,Int.toNat_natCast,BZ]at *;omega)|(exact jN rfl)|(rename_i h;first|exact oI h|exact nah h)|(rename_i _ h _ g;exact sL h g)|decide|omega|(refine A0 [] ?_;simp only[↓eB,seval,go_sem,bne,Bx,Bm,BJ,Int.reduceBEq,FG,BM,Bb,Dv,AO,List.isEmpty_nil,append_assoc,BZ])
  |cons e0 er=>
   have g0:=fr e0 er
   have g9:(e0::er).isEmpty=false:=rfl
   simp only[List.isEmpty_cons,Int.reduceBEq,if_true,if_false,jB,FG,BM,Bb,Qg,Dv,AO,append_nil,List.cons_append,length_append]at hlen
   have l0:=As j [[105,102,32,40],coT c,[41,32,123]]
   have l1:t.length+j+([[105,102,32,40],coT c,[41,32,123]]:List (List UInt8)).flatten.length+1≤100000000000000:=by omega
   have l2:=Du j [[105,102,32,40],coT c,[41,32,123]]
   have l3:=As j [[125]]
   have l4:=As j [[125,32,101,108,115,101,32,123]]
   simp only[List.mem_cons,List.not_mem_nil,or_false,forall_eq_or_imp,forall_eq]at l2
   generalize e0::er=el at*
   simp only[↓eB,seval,go_sem,g0]
   try simp only[A1,A2]
   repeat' first|exact ck|with_reducible apply And.intro|intro _
   all_goals first|exact hm|exact hu|exact hd0|exact hd2|exact hd3|exact hth|exact hel|exact e3|exact nc|exact l1|(simp only[length_append,flatten_cons,flatten_nil,length_cons,length_nil,Int.toNat_natCast,BZ]at *;omega)|(exact jN rfl)|(rename_i h;first|exact oI h|exact nah h)|(rename_i _ h _ g;exact sL h g)|decide|omega|(refine A0 [] ?_;simp only[↓eB,seval,go_sem,bne,Bx,Bm,BJ,Int.reduceBEq,FG,BM,Bb,Qg,Dv,AO,append_assoc,BZ,g9])
 ·obtain⟨j,rfl⟩:∃j:Nat,d=(j:Int):=⟨d.toNat,by omega⟩
  rw[Int.toNat_natCast]at hlen
  have hd3:(j:Int)+1+m≤1000000:=by omega
  simp only[Int.reduceBEq,if_true,if_false,jB,OA,BM,Bb,Dv,AO,append_nil,List.nil_append,length_append]at hlen
  have l0:=As j [[119,104,105,108,101,32,40],coT c,[41,32,123]]
  have l1:t.length+j+([[119,104,105,108,101,32,40],coT c,[41,32,123]]:List (List UInt8)).flatten.length+1≤100000000000000:=by omega
  have l2:=Du j [[119,104,105,108,101,32,40],coT c,[41,32,123]]
  have l3:=As j [[125]]
  simp only[List.mem_cons,List.not_mem_nil,or_false,forall_eq_or_imp,forall_eq]at l2
  simp only[↓eB,seval,go_sem]
  try simp only[A1,A2]
  repeat' first|exact ck|with_reducible apply And.intro|intro _
  all_goals first|exact hm|exact hu|exact hd0|exact hd2|exact hd3|exact hth|exact hel|exact e3|exact nc|exact l1|(simp only[length_append,flatten_cons,flatten_nil,length_cons,length_nil,Int.toNat_natCast,BZ]at *;omega)|(exact jN rfl)|(rename_i h;first|exact oI h|exact nah h)|(rename_i _ h _ g;exact sL h g)|decide|omega|(refine A0 [] ?_;simp only[↓eB,seval,go_sem,bne,Bx,Bm,BJ,Int.reduceBEq,OA,BM,Bb,Dv,AO,append_assoc,BZ])
 ·simp only[Int.reduceBEq,if_true,if_false,jB,OB,BM,AO,append_nil]at hlen
  have l0:=As d.toNat [[97,115,115,101,114,116,32,40],coT c,[41,59]]
  have l1:t.length+d.toNat+([[97,115,115,101,114,116,32,40],coT c,[41,59]]:List (List UInt8)).flatten.length+1≤100000000000000:=by omega
  have l2:=Du d.toNat [[97,115,115,101,114,116,32,40],coT c,[41,59]]
  simp only[List.mem_cons,List.not_mem_nil,or_false,forall_eq_or_imp,forall_eq]at l2
  simp only[↓eB,seval,go_sem]
  try simp only[A1,A2]
  repeat' first|exact ck|with_reducible apply And.intro|intro _
  all_goals first|exact hm|exact hu|exact hd0|exact hd2|exact hth|exact hel|exact e1|exact e2|exact e3|exact ne|exact nf|exact nc|(rename_i h;exact(hds _ h).1)|(rename_i h;exact(hds _ h).2)|exact e5|exact l1|exact hlen|(exact jN rfl)|(rename_i h;first|exact oI h|exact nah h)|(rename_i _ h _ g;exact sL h g)|decide|omega|(refine A0 [] ?_;simp only[↓eB,seval,go_sem,bne,Bx,Bm,BJ,Int.reduceBEq,OB,BM,AO,BZ])
theorem gC (n:Nat) (m:Nat) (hS:HR n m):HR n (m+1):=by
 rintro ⟨b,l,_u⟩ w M I lab fz xs hT hBk hc hA hl hx
 have hG:=MR Br hT hBk (fz:=fz) (I:=I) (n:=1)
 refine Eb 1 Tryz.func48 rfl _ rfl w M I lab fz [(RZ n m (Zm n m hS) hG)] [] _ _ _ xs hA hl hx ((Fa n (m+1)).an ⟨b,l,_u⟩) (jN rfl) (jN rfl) ?_
 clear hx hl hA xs
 simp only[Tryz.f48]
 obtain⟨hm,hu,hd0,hd1,⟨hl,hk⟩,hlen⟩:=hc
 obtain⟨d,t,rfl⟩:=kP hm hu
 dsimp only at hl hk
 rw[BZ]at hd0 hd1 hlen
 simp only[↓eB,seval,go_sem]
 refine AH (Y:=Nat) (fun z=>z≤l.length)
  (fun z=>⟨[(0,true,.one (.p 0 0 0)),(6,true,.one (.d (.sl zSm (l.map Sm.r)))),(7,true,.one (.v (.int .i64 (l.length:Int)))),(8,true,.one (.v (.int .i64 (z:Int))))],[(0,.vec 0 (tgN 111 3) [[.p 0 0 0,.ov zB8 ((t++lnX (lnB d.toNat (l.take z))).map byK),.v (.int .i64 d)]])]⟩)
  (fun z=>l.length-z) 0 (Nat.zero_le _) ?_ ?_
 ·refine A4 [] ?_;simp only[↓eB,seval,go_sem,NW,AO]
 ·rintro i hi
  refine Ab [RZ n m (Zm n m hS) hG] [] _ _ _ ?_
  cases hx:l[i]? with
  |none=>
   have h2:=List.getElem?_eq_none_iff.1 hx
   have h1:=Ao h2
   have h3:l.take i=l:=List.take_of_length_le h2
   simp only[↓eB,seval,go_sem,h1,h3]
   try simp only[A1,A2]
   repeat' first|exact ck|with_reducible apply And.intro|intro _
   all_goals first|exact trivial|(rename_i h;first|exact oI h|exact nah h)|(rename_i _ h _ g;exact sL h g)|decide|omega|(refine A0 [] ?_;simp only[↓eB,seval,go_sem,bne,Jz,FZ,BZ])
  |some s=>
   have hlt:i<l.length:=(List.getElem?_eq_some_iff.1 hx).1
   have h1:=Ah hlt
   have h2:=AX hlt
   have h2':=AM (n:=l.length) (Nat.le_of_lt hlt) (by omega)
   have g1:=hk s (List.mem_of_getElem? hx)
   have g2:=XN hx d.toNat
   have g3:(t++lnX (lnB d.toNat (l.take i))).length+(lnX (lnS d.toNat s)).length≤1000000000:=by
    have:=Zl hx d.toNat
    dsimp only at hlen
    rw[length_append];omega
   have g4:d+1+(m:Int)≤1000000:=by omega
   obtain⟨k,x,y,e,f,c,ar,th,el,no⟩:=s
   have h3:=fq hx
   simp only[↓eB,seval,go_sem,RZ,h1,h2,h2',h3]
   try simp only[A1,A2]
   repeat' first|exact ck|with_reducible apply And.intro|intro _
   all_goals try first|exact hlt|exact rfl|exact hd0|exact g4|exact g1.1|exact g1.2.1|exact g1.2.2|exact g3|(rename_i h;first|exact oI h|exact nah h)|(rename_i _ h _ g;exact sL h g)|decide|omega
   refine⟨i+1,hlt,by omega,A4 [] ?_⟩
   simp only[↓eB,seval,go_sem,BZ,g2,append_assoc]
theorem OC (n:Nat):∀m:Nat,HR n m
 |0=>by
  rintro ⟨b,l,_u⟩ w M I lab fz xs hT hBk hc hA hl hx
  exact hc.2.2.2.2.1.elim
 |m+1=>gC n m (OC n m)
end Go.Proofs.YtbiepiggmagfcaaGreatDoor
