/- The seat's programs: one function of a name; what a run leaves is not long. Plain. -/
import Derived.Test.YtjnnmindcbgjhaaPs
import Derived.Test.YtjnnmindcbgjhaaAg
import Derived.Test.YtjnnmindcbgjhaaMk5
import Derived.Test.YtjnnmindcbgjhaaOp
import Derived.Test.YtjnnmindcbgjhaaOu
import Derived.Test.YtjnnmindcbgjhaaRst
set_option linter.unusedVariables false
set_option linter.unusedSimpArgs false
set_option maxRecDepth 100000
set_option maxHeartbeats 16000000
open List (length_append length_cons)
namespace Go.Proofs.Ytjnnmindcbgjhaa
open Go Go.Sy Go.RowKit
def nF (f:List UInt8) (l:List Fn):Nat:=(l.filter fun g=>g.name==f).length
theorem u5 (f:List UInt8) (l:List Fn) (G:Fn):nF f (insF l G)=nF f l+(if (G.name==f)=true then 1 else 0):=by
 unfold nF insF
 rw[List.filter_append,List.filter_cons,length_append]
 have h:=congrArg (fun x=>(List.filter (fun g:Fn=>g.name==f) x).length) (List.take_append_drop (KV l G.name l.length) l)
 rw[List.filter_append,length_append]at h
 split<;>(try simp only[length_cons])<;>omega
def nU (f:List UInt8) (l:List Un):Nat:=(l.filter fun u=>u.s==f).length
theorem A0W (f:List UInt8) (m:Nat) (gl:List UInt8→List Gi) (P:Pg) (u:Un):nF f (upP m gl P u).fs≤nF f P.fs+(if (u.s==f)=true then 1 else 0):=by
 unfold upP
 split
 ·exact Nat.le_add_right _ _
 split
 ·exact Nat.le_add_right _ _
 split
 ·exact Nat.le_add_right _ _
 ·rename_i hr
  rw[u5]
  have hn:(Jw (FV u.t).1 u.s m).1.name=u.s:=by
   unfold Jw at hr ⊢
   split
   ·rename_i h3;rw[if_pos h3]at hr;exact absurd rfl hr
   rename_i h3;rw[if_neg h3]at hr
   split
   ·rename_i h4;rw[if_pos h4]at hr;exact absurd rfl hr
   rename_i h4;rw[if_neg h4]at hr
   split
   ·rename_i h5;rw[if_pos h5]at hr;exact absurd rfl hr
   ·have h6:((FV u.t).1.name==u.s)=true:=by
     cases h7:((FV u.t).1.name==u.s) with
     |true=>rfl
     |false=>exact absurd (by simp[bne,h7]) h3
    exact eq_of_beq h6
  rw[hn];exact Nat.le_refl _
theorem kW (f:List UInt8) (m:Nat) (gl:List UInt8→List Gi):∀(l:List Un) (P:Pg),nF f (l.foldl (upP m gl) P).fs≤nF f P.fs+nU f l
 |[],P=>Nat.le_refl _
 |u::l,P=>by
  have h1:=kW f m gl l (upP m gl P u)
  have h2:=A0W f m gl P u
  have h3:nU f (u::l)=nU f l+(if (u.s==f)=true then 1 else 0):=by
   unfold nU;rw[List.filter_cons];split<;>rfl
  show nF f (l.foldl (upP m gl) (upP m gl P u)).fs≤_
  omega
theorem lk {P:Pg} {f:List UInt8} {l:List Int} {q:Int} (h:∀g∈P.fs,g.ps.length≤5000):(agF P f l q).length≤nF f P.fs*5000:=by
 unfold agF nF
 generalize P.fs=fs at h
 induction fs with
 |nil=>exact Nat.zero_le _
 |cons g r ih=>
  have h1:=ih fun x hx=>h x (List.mem_cons_of_mem _ hx)
  have h2:=h g (List.mem_cons_self ..)
  rw[List.flatMap_cons,length_append,List.filter_cons]
  unfold agG at h1 ⊢
  split
  ·rw[UV,length_cons];omega
  ·simp only[List.length_nil];omega
theorem A0X (f:List UInt8) (g:Int) (l:List (List Int)):nU f (utF g l)≤1:=by
 have hN:utN l=0∨utN l=1∨utN l=2∨utN l=3∨utN l=4:=by unfold utN;split<;>omega
 have key:∀L:List Un,(L.map (·.s)).Nodup→nU f L≤1:=by
  intro L hL
  unfold nU
  induction L with
  |nil=>exact Nat.zero_le _
  |cons u r ih=>
   have hL:=List.nodup_cons.1 hL
   rw[List.filter_cons]
   split
   ·rename_i hu
    have e:List.filter (fun u=>u.s==f) r=[]:=List.filter_eq_nil_iff.2 fun x hx hxf=>hL.1 (by
     show u.s∈_
     rw[eq_of_beq hu,← eq_of_beq hxf];exact List.mem_map_of_mem (f:=fun x:Un=>x.s) hx)
    rw[e];exact Nat.le_refl _
   ·exact ih hL.2
 refine key _ ?_
 unfold utF
 rcases hN with e|e|e|e|e<;>rw[e]
 ·exact(by decide:[gloB].Nodup)
 ·exact(by decide:[nmS 0,gloB].Nodup)
 ·exact(by decide:[nmS 0,nmS 1,gloB].Nodup)
 ·exact(by decide:[nmS 0,nmS 1,gloB,nmS 2].Nodup)
 ·exact(by decide:[nmS 0,nmS 1,gloB,nmS 2,nmS 3].Nodup)
theorem ll {m:Nat} {g:Int} {l:List (List Int)} {f:List UInt8} {ns:List Int} {q:Int} (h:∀x∈(sPg m (wgl g) g l).fs,x.ps.length≤5000):(agF (sPg m (wgl g) g l) f ns q).length≤5000:=by
 have h1:=lk (f:=f) (l:=ns) (q:=q) h
 have h2:=kW f m (wgl g) (utF g l) ⟨⟨[],[]⟩,[]⟩
 have h3:=A0X f g l
 have h4:nF f (⟨⟨[],[]⟩,[]⟩:Pg).fs=0:=rfl
 have h5:nF f (sPg m (wgl g) g l).fs≤1:=by unfold sPg prF;omega
 omega
end Go.Proofs.Ytjnnmindcbgjhaa
namespace Go.Proofs.Ytjnnmindcbgjhaa
open Go Go.Sy Go.RowKit
def ltF (l:List (List Int)) (n:Int):Bool:=!(decide (4<(l.length:Int)))&&l.all fun b=>!(decide (n<(b.length:Int)))
theorem A0Y {l:List (List Int)} {i:Nat} (h:i<l.length) (p:List Int→Bool):(l.drop i).all p=(p (l.getD i [])&&(l.drop (i+1)).all p):=by
 rw[List.drop_eq_getElem_cons h,List.all_cons]
 simp only[List.getD,List.getElem?_eq_getElem h,Option.getD_some]
abbrev Wy (l:List (List Int)) (n:Int):Prop:=l.length≤maxLen
abbrev EI (l:List (List Int)) (n:Int):SV:=.one (.v (.bool (ltF l n)))
noncomputable abbrev Sb:ArgC ((List (List Int))×(Int)×Unit):=(acS (cBl) (acS (cInt .i64) ac0))
abbrev fj:Prop:=CY Try.prog 12 Sb (fun p:(List (List Int))×(Int)×Unit=>Wy p.1 p.2.1) (fun p:(List (List Int))×(Int)×Unit=>EI p.1 p.2.1)
theorem fk:∀p:(List (List Int))×(Int)×Unit,((fun p:(List (List Int))×(Int)×Unit=>EI p.1 p.2.1) p).names=[]:=by intro p;rfl
attribute [local go_sem] Wd Wc uY
theorem lm:fj:=by
 rintro ⟨l,n,_u⟩ w fz xs hc hfz hl hx
 refine BZ Try.func12 rfl w fz [] [] Sb (fun p:(List (List Int))×(Int)×Unit=>EI p.1 p.2.1) _ xs hfz hl hx (jN rfl) ?_
 clear hx hl hfz xs
 simp only[Try.f12]
 have hc:l.length≤9223372036854775807:=Nat.le_trans (show l.length≤maxLen from hc) (by decide)
 cases h4:decide (4<(l.length:Int)) with
 |true=>
  have hr:ltF l n=false:=by unfold ltF;rw[h4];rfl
  simp only[↓eB,seval,go_sem,h4]
  refine A0 [] ?_;simp only[↓eB,seval,go_sem,bne,EI,hr]
 |false=>
  obtain⟨p,hp⟩:∃p:List Int→Bool,(fun b=>!(decide (n<(b.length:Int))))=p:=⟨_,rfl⟩
  have hr:ltF l n=l.all p:=by unfold ltF;rw[h4,← hp];rfl
  simp only[↓eB,seval,go_sem,h4]
  refine AU (Y:=Nat) (fun i=>i≤l.length∧(l.drop i).all p=l.all p)
   (fun i=>⟨[(0,true,.one (.d (.sl IR (l.map Gx)))),(1,true,.one (.v (.int .i64 n))),(5,true,.one (.v (.int .i64 (i:Int))))],[]⟩)
   (fun i=>l.length-i) 0 ⟨Nat.zero_le _,rfl⟩ ?_ ?_
  ·refine A2 [] ?_;simp only[↓eB,seval,go_sem]
  ·rintro i ⟨hi,hJ⟩
   refine Ak [] [] _ _ _ ?_
   by_cases hlt:i<l.length
   ·have h1:decide ((i:Int)<(l.length:Int))=true:=decide_eq_true (by omega)
    have w1:IntKind.i64.wrap ((i:Int)+1)=((i+1:Nat):Int):=by rw[wrap_i64 (by omega) (by omega)];rfl
    have hz:=cw hlt
    have hil:(i:Int)<(l.length:Int):=by omega
    rw[A0Y hlt]at hJ
    have hpb:p (l.getD i []) = !(decide (n<((l.getD i []).length:Int))):=by rw[← hp]
    rw[hpb]at hJ
    generalize l.getD i []=b at hz hJ hpb
    cases hb:decide (n<(b.length:Int)) with
    |true=>
     have hr2:ltF l n=false:=by rw[hr,← hJ,hb];rfl
     simp only[↓eB,seval,go_sem,h1,hz,hb]
     refine⟨⟨hil,rfl⟩,?_⟩
     refine A0 [] ?_;simp only[↓eB,seval,go_sem,bne,EI,hr2]
    |false=>
     have hJ2:(l.drop (i+1)).all p=l.all p:=by rw[← hJ,hb];rfl
     simp only[↓eB,seval,go_sem,h1,w1,hz,hb]
     refine⟨⟨hil,rfl⟩,i+1,⟨hlt,hJ2⟩,(by omega),?_⟩
     refine A2 [] ?_;simp only[↓eB,seval,go_sem]
   ·have h1:decide ((i:Int)<(l.length:Int))=false:=decide_eq_false (by omega)
    have hr2:ltF l n=true:=by rw[hr,← hJ,List.drop_of_length_le (by omega)];rfl
    simp only[↓eB,seval,go_sem,h1]
    refine A0 [] ?_;simp only[↓eB,seval,go_sem,bne,EI,hr2]
noncomputable def HP {X:Ctx} {w0:World}:Sy.Spec Try.prog X w0:=D4 12 Try.call12 Sb (fun p:(List (List Int))×(Int)×Unit=>Wy p.1 p.2.1) (fun p:(List (List Int))×(Int)×Unit=>EI p.1 p.2.1) fk lm
end Go.Proofs.Ytjnnmindcbgjhaa
namespace Go.Proofs.Ytjnnmindcbgjhaa
open Go Go.Sy Go.RowKit
end Go.Proofs.Ytjnnmindcbgjhaa
namespace Go.Proofs.Ytjnnmindcbgjhaa
open Go Go.Sy Go.RowKit
noncomputable def suN (g:Int) (l:List (List Int)):Nat:=(sUn g l).choose
noncomputable def suM (g:Int) (l:List (List Int)):Nat:=(sUn g l).choose_spec.choose
theorem A0Z (g:Int) (l:List (List Int)):∀u∈utF g l,okUn (suN g l) (suM g l) (wgl g) u:=(sUn g l).choose_spec.choose_spec.2
noncomputable section
end
end Go.Proofs.Ytjnnmindcbgjhaa
namespace Go.Proofs.Ytjnnmindcbgjhaa
open Go Go.Sy Go.RowKit Go.ChangeShapes Go.WideShapes Go.ChangeAt
section
variable {H:Type} {enc:TypeId×Value→H} {W:World}
theorem lp (fuel:Nat):IJ enc Try.prog W 80 fuel Gx (fun l=>l.length≤maxLen∧∀x∈l,u8R x):=by
 cases fuel with
 |zero=>exact HG
 |succ n=>exact LD id _ _ (KS Try.underlying80 zBy (by kernel_rfl) (by decide) (Se Try.underlying5)) (fun _=>rfl) (fun _ h=>⟨h.1,fun x hx=>eT (h.2 x hx)⟩)
theorem fm (fuel:Nat):IJ enc Try.prog W 22 fuel (fun l:List (List Int)=>[.sl IR (l.map Gx)]) (fun l=>l.length≤maxLen∧∀x∈l,x.length≤maxLen∧∀y∈x,u8R y):=by
 cases fuel with
 |zero=>exact HG
 |succ n=>exact KS Try.underlying22 IR (by kernel_rfl) (by decide) (lp n)
variable {base:Nat} {v:Value} {d:DataW H} {p:List MemPlace}
theorem Yc (hv:Value.okWide Try.prog W .any base 22 v) (h:DataW.Trod enc Try.prog W 0 (fun _=>true) true 22 v d p) :
  ∃l:List (List Int),(l.length≤maxLen∧∀x∈l,x.length≤maxLen∧∀y∈x,u8R y)∧CD (hp W) (fun b=>b<W.heap.size) (.one (.d (.sl IR (l.map Gx)))) v:=gZ (f:=fun l:List (List Int)=>D.sl IR (l.map Gx)) (r:=.any) (base:=base) (cx Try.underlying22 hv) h fm
end
end Go.Proofs.Ytjnnmindcbgjhaa
namespace Go.Proofs.Ytjnnmindcbgjhaa
open Go Go.Sy Go.RowKit
theorem Yu {s x:List UInt8} {n:Int} (h:(x==s)=false):∀l:List Nb,lkN s (l++[⟨x,n⟩])=lkN s l
 |[]=>by
  show (if (x==s)=true then n else lkN s [])=lkN s []
  rw[if_neg (by rw[h];decide)]
 |y::r=>by
  show (if (y.s==s)=true then y.n else lkN s (r++[⟨x,n⟩]))=if (y.s==s)=true then y.n else lkN s r
  rw[Yu h r]
theorem fq {p:List (List UInt8)} {s:List Nb} {x:List UInt8} {n:Int} (h:∀c∈p,(c==x)=false):stCs p (s++[⟨x,n⟩])=stCs p s:=by
 unfold stCs blC
 rw[List.map_map,List.map_map]
 refine List.map_congr_left fun c hc=>?_
 show stN (s++[⟨x,n⟩]) ⟨c,0⟩=stN s ⟨c,0⟩
 have hx:(x==c)=false:=by
  cases e:(x==c) with
  |false=>rfl
  |true=>have:=h c hc;rw[eq_of_beq e]at this;simp at this
 rw[Xd,Xd,Yu hx]
theorem lq {k:Nat} {P:Pg} {f:List UInt8} {va:List Va} {s:Sta} {x:List UInt8} {n:Int} {fuel:Int} (h:∀c∈P.g.c,(c==x)=false) :
  clF k P f va ⟨s.cs++[⟨x,n⟩],s.ar⟩ fuel=clF k P f va s fuel:=by
 have e:ms0 P ⟨s.cs++[⟨x,n⟩],s.ar⟩ fuel=ms0 P s fuel:=by
  unfold ms0;dsimp only;rw[fq h]
 unfold clF;rw[e]
end Go.Proofs.Ytjnnmindcbgjhaa
namespace Go.Proofs.Ytjnnmindcbgjhaa
open Go Go.Sy Go.RowKit
def Na.c0 (x:Na):List C:=[.v (.string (bs x.s)),.d (.sl zIw (x.l.map iD))]
theorem u6 {k:Int} {l:List (List Int)} (hk:k≤1000) (h:ltF l k=true) (hb:∀x∈l,x.length≤maxLen∧∀y∈x,u8R y):l.length≤4∧∀b∈l,okY b:=by
 unfold ltF at h
 rw[Bool.and_eq_true]at h
 have h1:¬(4:Int)<(l.length:Int):=by
  intro hh;rw[decide_eq_true hh]at h;exact absurd h.1 (by decide)
 refine⟨by omega,fun b hbl=>?_⟩
 have h2:=List.all_eq_true.1 h.2 b hbl
 have h3:¬k<(b.length:Int):=by
  intro hh;rw[decide_eq_true hh]at h2;exact absurd h2 (by decide)
 exact⟨by omega,fun y hy=>by have:=(hb b hbl).2 y hy;unfold u8R at this;omega⟩
noncomputable section
abbrev Yd (g:Int) (l:List (List Int)) (s:Sta) (x:List UInt8) (n:Int):Prop:=u8R g∧(l.length≤maxLen∧∀x∈l,x.length≤maxLen∧∀y∈x,u8R y)∧(s.cs.length≤maxLen∧s.ar.length≤maxLen∧∀x∈s.ar,x.l.length≤maxLen)∧x.length≤maxLen∧bK n
abbrev GU (g:Int) (l:List (List Int)) (s:Sta) (x:List UInt8) (n:Int):Value:=Value.bool true
attribute [local go_sem] Na.r Nb.r Ou.c Wd Wc bP wZ lN ax ky A1q QD QC cSl Nk PZ wU eP BG BI eQ po ouC pgR pqR A1p A1n A1o stR wT
theorem aW:MK Try.prog 4 (ahS ((cInt .u8).H) (ahS (cBl.H) (ahS (cSta.H) (ahS (cStr.H) (ahS ((cInt .i64).H) ah0))))) (fun p:(Int×(List (List Int)×(Sta×(List UInt8×(Int×Unit)))))=>Yd p.1 p.2.1 p.2.2.1 p.2.2.2.1 p.2.2.2.2.1) (fun p:(Int×(List (List Int)×(Sta×(List UInt8×(Int×Unit)))))=>ofV (GU p.1 p.2.1 p.2.2.1 p.2.2.2.1 p.2.2.2.2.1)):=by
 rintro ⟨g,l,s,x,n,_u⟩ w fz xs hc hfz hl hx
 refine JI Try.func4 rfl w fz [FX,HP,GC,(JY (suN g l) (suM g l) (wgl g) (lB (suN g l) (suM g l) (wgl g))),HM,GL,(HT (suN g l) (ZT (suN g l))),FT,Er] [(12,[.fz 59,.fz 62,.flag 66])] (ahS ((cInt .u8).H) (ahS (cBl.H) (ahS (cSta.H) (ahS (cStr.H) (ahS ((cInt .i64).H) ah0))))) (fun p:(Int×(List (List Int)×(Sta×(List UInt8×(Int×Unit)))))=>ofV (GU p.1 p.2.1 p.2.2.1 p.2.2.2.1 p.2.2.2.2.1)) _ xs hfz hl hx (jN rfl) ?_
 clear hx hl hfz xs
 simp only[Try.f4]
 obtain⟨⟨g0,g1⟩,⟨l0,l1⟩,⟨s0,s1,s2⟩,x0,⟨n0,n1⟩⟩:=hc
 dsimp only at g0 g1 l0 l1 s0 s1 s2 x0 n0 n1
 obtain⟨sc,sa⟩:=s
 dsimp only at s0 s1 s2
 cases hL:ltF l 80 with
 |false=>
  simp only[↓eB,seval,go_sem,FX,Dl,HP,EI,GC,DO,JY,HM,FB,GL,EY,HT,FT,Dk,Er,E5,iD,hL]
  refine⟨l0,?_⟩
  refine A0 [] ?_;simp only[↓eB,seval,go_sem,bne,GU]
 |true=>
  cases hS:lsB ⟨sc,sa⟩ with
  |false=>
   simp only[↓eB,seval,go_sem,FX,Dl,HP,EI,GC,DO,JY,HM,FB,GL,EY,HT,FT,Dk,Er,E5,iD,hL,hS]
   refine⟨l0,?_⟩
   refine A0 [] ?_;simp only[↓eB,seval,go_sem,bne,GU]
  |true=>
   cases h6:decide (30<(x.length:Int)) with
   |true=>
    simp only[↓eB,seval,go_sem,FX,Dl,HP,EI,GC,DO,JY,HM,FB,GL,EY,HT,FT,Dk,Er,E5,iD,hL,hS,h6]
    refine⟨l0,?_⟩
    refine A0 [] ?_;simp only[↓eB,seval,go_sem,bne,GU]
   |false=>
    obtain⟨lk1,lk2⟩:=u6 (by decide) hL l1
    have hu:=A0Z g l
    have hU:XD (suN g l) (suM g l) (wgl g) g l:=⟨⟨g0,by show l.length≤1000000;omega,lk2⟩,hu⟩
    have hR:=fun (s:Sta) (va:List Va) (fuel:Int) (k:Nat) hv h1 h2 hf hk=>A1E (s:=s) (va:=va) (fuel:=fuel) (k:=k) hu hv h1 h2 hf hk
    have hag:=fun f=>ll (m:=suM g l) (g:=g) (l:=l) (f:=f) (ns:=[n]) (q:=0) (fun x hx=>((hR ⟨[],[]⟩ [] 0 1 (Nat.zero_le _) (Nat.zero_le _) (Nat.zero_le _) (by decide) (by decide)).p.f x hx).1.1)
    obtain⟨P,hPe⟩:∃P,sPg (suM g l) (wgl g) g l=P:=⟨_,rfl⟩
    rw[hPe]at hR
    simp only[hPe]at hag
    have hR0:=hR ⟨[],[]⟩ [] 0 1 (Nat.zero_le _) (Nat.zero_le _) (Nat.zero_le _) (by decide) (by decide)
    simp only[↓eB,seval,go_sem,FX,Dl,HP,EI,GC,DO,JY,HM,FB,GL,EY,HT,FT,Dk,Er,E5,iD,hL,hS,h6,hPe]
    refine⟨l0,hU,?_⟩
    have hcl:=hR0.c
    refine AU (Y:=Nat) (fun i=>i≤P.g.c.length∧∀j,j<i→(P.g.c.getD j []==x)=false)
     (fun i=>⟨[(3,true,.one (.v (.string (bs x)))),(4,true,.one (.v (.int .i64 n))),(7,true,.one (.p 7 0 0)),(11,true,.one (.p 11 0 0)),(12,true,.one (.v (.int .i64 (i:Int))))],
      [(7,.vec 0 [.v (.bool false),.v (.bool false)] [stR ⟨sc,sa⟩]),(11,.vec 0 iq [pqR P])]⟩)
     (fun i=>P.g.c.length-i) 0 ⟨Nat.zero_le _,fun j hj=>absurd hj (Nat.not_lt_zero _)⟩ ?_ ?_
    ·refine A2 [] ?_;simp only[↓eB,seval,go_sem,iD,iq,JY,hPe]
    ·rintro i ⟨hi,hJ⟩
     refine Ak [FX,HP,GC,JY (suN g l) (suM g l) (wgl g) (lB (suN g l) (suM g l) (wgl g)),HM,GL,HT (suN g l) (ZT (suN g l)),FT,Er] [(12,[.fz 59,.fz 62,.flag 66])] _ _ _ ?_
     by_cases hlt:i<P.g.c.length
     ·have k1:decide ((i:Int)<(P.g.c.length:Int))=true:=decide_eq_true (by omega)
      have w1:IntKind.i64.wrap ((i:Int)+1)=((i+1:Nat):Int):=by rw[wrap_i64 (by omega) (by omega)];rfl
      have hil:(i:Int)<(P.g.c.length:Int):=by omega
      have hz:=cP hlt
      cases hq:(P.g.c.getD i []==x) with
      |true=>
       simp only[↓eB,seval,go_sem,FX,Dl,HP,EI,GC,DO,JY,HM,FB,GL,EY,HT,FT,Dk,Er,E5,iD,k1,hz,hq]
       refine⟨⟨hil,rfl⟩,?_⟩
       refine A0 [] ?_;simp only[↓eB,seval,go_sem,bne,GU]
      |false=>
       simp only[↓eB,seval,go_sem,FX,Dl,HP,EI,GC,DO,JY,HM,FB,GL,EY,HT,FT,Dk,Er,E5,iD,k1,hz,hq,w1]
       refine⟨⟨hil,rfl⟩,i+1,⟨hlt,fun j hj=>?_⟩,(by omega),?_⟩
       ·by_cases h:j=i
        ·rw[h];exact hq
        ·exact hJ j (by omega)
       ·refine A2 [] ?_;simp only[↓eB,seval,go_sem,iD,iq]
     ·have k1:decide ((i:Int)<(P.g.c.length:Int))=false:=decide_eq_false (by omega)
      have e1:(sc.map Nb.r).map (fun r=>r.map oD)=sc.map Nb.c:=by rw[List.map_map];exact List.map_congr_left fun _ _=>rfl
      have e3:(sa.map Na.r).map (fun r=>r.map oD)=sa.map Na.c0:=by rw[List.map_map];exact List.map_congr_left fun _ _=>rfl
      have e2:D3 (sc.map Nb.c++[[C.v (.string (bs x)),C.v (.int .i64 n)]])=some ((sc++[(⟨x,n⟩:Nb)]).map Nb.r):=by
       have h:=FM (f:=Nb.c) (g:=Nb.r) (fun _=>rfl) (sc++[(⟨x,n⟩:Nb)])
       rw[List.map_append]at h;exact h
      have e4:D3 (sa.map Na.c0)=some (sa.map Na.r):=FM Na.c0 (fun _=>rfl) sa
      have e5:∀(k:Nat) (z:List D) (e:List (List D)),(sa.map Na.c0).map (fun r=>r.map (fzC k z e))=sa.map Na.c0:=fun k z e=>G4 Na.c0 (fun _=>rfl) sa
      have hJ':∀c∈P.g.c,(c==x)=false:=fun c hc=>by
       obtain⟨j,hj,rfl⟩:=List.getElem_of_mem hc
       have:=hJ j (by omega)
       simpa [List.getD,hj] using this
      obtain⟨va,hva⟩:∃va,agF P [102] [n] 0=va:=⟨_,rfl⟩
      have hvl:va.length≤5000:=by rw[← hva];exact hag [102]
      obtain⟨m,hm⟩:∃m,clA P [102] va ⟨sc,sa⟩ 200=m:=⟨_,rfl⟩
      have hap:clA P [102] va ⟨sc++[(⟨x,n⟩:Nb)],sa⟩ 200=m:=(lq (s:=⟨sc,sa⟩) hJ').trans hm
      simp only[↓eB,seval,go_sem,FX,Dl,HP,EI,GC,DO,JY,HM,FB,GL,EY,HT,FT,Dk,Er,E5,iD,k1,e1,e2,e3,e4,e5,hPe,Et,hva,hm,hap]
      have hrs:B4 [[C.v (.string (bs x)),C.v (.int .i64 n)]]:=by
       intro r h c hc
       rw[List.mem_singleton.1 h]at hc
       simp only[List.mem_cons,List.not_mem_nil,or_false]at hc
       rcases hc with rfl|rfl<;>rfl
      have hr1:B4 (sc.map Nb.c):=by
       intro r h c hc
       obtain⟨u,_,rfl⟩:=List.mem_map.1 h
       simp only[Nb.c,List.mem_cons,List.not_mem_nil,or_false]at hc
       rcases hc with rfl|rfl<;>rfl
      have hr2:B4 (sa.map Na.c0):=by
       intro r h c hc
       obtain⟨u,_,rfl⟩:=List.mem_map.1 h
       simp only[Na.c0,List.mem_cons,List.not_mem_nil,or_false]at hc
       rcases hc with rfl|rfl<;>rfl
      have hl5:sc.length≤5∧sa.length≤5:=by
       unfold lsB at hS
       simp only[Bool.and_eq_true,Bool.not_eq_true',decide_eq_false_iff_not]at hS
       omega
      have hk:=A1F (n:=(200:Int).toNat+1) (P:=P) (f:=[102]) (va:=va) (s:=⟨sc,sa⟩) (a:=200) (by decide)
      change (clA P [102] va ⟨sc,sa⟩ 200).cs.length=_∧(clA P [102] va ⟨sc,sa⟩ 200).ar.map naL=_ at hk
      rw[hm]at hk
      have hst:=Zg P.g.a sa (fun x hx=>(hR0.l x hx).2)
      have lc:m.cs.length≤1000000:=by have h:=hk.1;rw[Su]at h;have:=hR0.c;omega
      have la:m.ar.length≤1000000:=by
       have h:=congrArg List.length hk.2
       rw[List.length_map,List.length_map,Xe]at h
       have:=hR0.a;omega
      have lx:∀x∈m.ar,x.l.length≤1000000000:=fun x hx=>by
       have h:naL x∈m.ar.map naL:=List.mem_map_of_mem hx
       rw[hk.2]at h
       obtain⟨y,hy,e⟩:=List.mem_map.1 h
       have:=hst y hy
       show naL x≤_
       rw[← e];exact this
      have hA:SY P [102] [n] 0:=⟨hR0.c,by show 1≤_;decide,hR0.p.l,fun x hx=>(hR0.p.f x hx).1.1,by decide,by decide⟩
      have hRs:RF P ⟨sc,sa⟩:=⟨hR0.c,hR0.a,hR0.l,by show sc.length≤_;omega,by show sa.length≤_;omega⟩
      have c1:Q7 (suN g l) P [102] va ⟨sc,sa⟩ 200:=⟨by decide,hR _ _ _ _ hvl (by show sc.length≤_;omega) (by show sa.length≤_;omega) (by decide) (by decide)⟩
      have c2:Q7 (suN g l) P [102] va ⟨sc++[(⟨x,n⟩:Nb)],sa⟩ 200:=⟨by decide,hR _ _ _ _ hvl (by simp only[length_append,length_cons,List.length_nil];omega) (by show sa.length≤_;omega) (by decide) (by decide)⟩
      have hH:Qu ⟨stCs P.g.c sc,stA P.g.a sa⟩ ⟨stCs P.g.c sc,stA P.g.a sa⟩:=⟨rfl,by show (stCs _ _).length≤_;rw[Su];exact hR0.c,by show (stA _ _).length≤_;rw[Xe];exact hR0.a,hst⟩
      refine⟨⟨(fun q h=>by cases h;rfl),hr1,(by omega),(by omega)⟩,⟨(fun q h=>by cases h;rfl),hrs,(by decide),(by omega),(by omega)⟩,⟨(fun q h=>by cases h;rfl),hr2,(by omega),(by omega)⟩,C7 (by kernel_rfl),hA,hRs,c1,c2,C7 (by kernel_rfl),⟨rfl,lc,la,lx⟩,hRs,hH,C7 (by kernel_rfl),?_⟩
      refine A0 [] ?_;simp only[↓eB,seval,go_sem,bne,GU]
end
end Go.Proofs.Ytjnnmindcbgjhaa
namespace Go.Proofs.Ytjnnmindcbgjhaa
open Go Go.Sy Go.RowKit Go.ChangeShapes Go.WideShapes Go.ChangeAt
theorem u7 {s:ByteArray} (h:s.size≤maxLen):s.data.toList.length≤maxLen:=by
 rw[Array.length_toList];exact h
end Go.Proofs.Ytjnnmindcbgjhaa
