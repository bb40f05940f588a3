/- The seat's programs: one function of a name; what a run leaves is not long. Plain. -/
import Derived.Test.YtjnnmindcbgjhaaRu1
import Derived.Test.YtjnnmindcbgjhaaAg
import Derived.Test.YtjnnmindcbgjhaaMk5
import Derived.Test.YtjnnmindcbgjhaaOp
import Derived.Test.YtjnnmindcbgjhaaOu
import Derived.Test.YtjnnmindcbgjhaaPs
set_option linter.unusedVariables false
set_option linter.unusedSimpArgs false
set_option maxRecDepth 100000
set_option maxHeartbeats 16000000
namespace Go.Proofs.Ytjnnmindcbgjhaa
open Go Go.Sy Go.RowKit
def nF (f:List UInt8) (l:List Fn):Nat:=(l.filter fun g=>g.name==f).length
theorem tX (f:List UInt8) (l:List Fn) (G:Fn):nF f (insF l G)=nF f l+(if (G.name==f)=true then 1 else 0):=by
 unfold nF insF
 rw[List.filter_append,List.filter_cons,List.length_append]
 have h:=congrArg (fun x=>(List.filter (fun g:Fn=>g.name==f) x).length) (List.take_append_drop (KH l G.name l.length) l)
 rw[List.filter_append,List.length_append]at h
 split<;>(try simp only[List.length_cons])<;>omega
def nU (f:List UInt8) (l:List Un):Nat:=(l.filter fun u=>u.s==f).length
theorem A0D (f:List UInt8) (m:Nat) (gl:List UInt8→List Gi) (P:Pg) (u:Un):nF f (upP m gl P u).fs≤nF f P.fs+(if (u.s==f)=true then 1 else 0):=by
 unfold upP
 split
 ·exact Nat.le_add_right _ _
 split
 ·exact Nat.le_add_right _ _
 split
 ·exact Nat.le_add_right _ _
 ·rename_i hr
  rw[tX]
  have hn:(Jj (FP u.t).1 u.s m).1.name=u.s:=by
   unfold Jj at hr ⊢
   split
   ·rename_i h3;rw[if_pos h3]at hr;exact absurd rfl hr
   rename_i h3;rw[if_neg h3]at hr
   split
   ·rename_i h4;rw[if_pos h4]at hr;exact absurd rfl hr
   rename_i h4;rw[if_neg h4]at hr
   split
   ·rename_i h5;rw[if_pos h5]at hr;exact absurd rfl hr
   ·have h6:((FP u.t).1.name==u.s)=true:=by
     cases h7:((FP u.t).1.name==u.s) with
     |true=>rfl
     |false=>exact absurd (by simp[bne,h7]) h3
    exact eq_of_beq h6
  rw[hn];exact Nat.le_refl _
theorem jz (f:List UInt8) (m:Nat) (gl:List UInt8→List Gi):∀(l:List Un) (P:Pg),nF f (l.foldl (upP m gl) P).fs≤nF f P.fs+nU f l
 |[],P=>Nat.le_refl _
 |u::l,P=>by
  have h1:=jz f m gl l (upP m gl P u)
  have h2:=A0D f m gl P u
  have h3:nU f (u::l)=nU f l+(if (u.s==f)=true then 1 else 0):=by
   unfold nU;rw[List.filter_cons];split<;>rfl
  show nF f (l.foldl (upP m gl) (upP m gl P u)).fs≤_
  omega
theorem lP {P:Pg} {f:List UInt8} {l:List Int} {q:Int} (h:∀g∈P.fs,g.ps.length≤5000):(agF P f l q).length≤nF f P.fs*5000:=by
 unfold agF nF
 generalize P.fs=fs at h
 induction fs with
 |nil=>exact Nat.zero_le _
 |cons g r ih=>
  have h1:=ih fun x hx=>h x (List.mem_cons_of_mem _ hx)
  have h2:=h g (List.mem_cons_self ..)
  rw[List.flatMap_cons,List.length_append,List.filter_cons]
  unfold agG at h1 ⊢
  split
  ·rw[UF,List.length_cons];omega
  ·simp only[List.length_nil];omega
theorem A0E (f:List UInt8) (g:Int) (l:List (List Int)):nU f (utF g l)≤1:=by
 have hN:utN l=0∨utN l=1∨utN l=2∨utN l=3∨utN l=4:=by unfold utN;split<;>omega
 have key:∀L:List Un,(L.map (·.s)).Nodup→nU f L≤1:=by
  intro L hL
  unfold nU
  induction L with
  |nil=>exact Nat.zero_le _
  |cons u r ih=>
   have hL:=List.nodup_cons.1 hL
   rw[List.filter_cons]
   split
   ·rename_i hu
    have e:List.filter (fun u=>u.s==f) r=[]:=List.filter_eq_nil_iff.2 fun x hx hxf=>hL.1 (by
     show u.s∈_
     rw[eq_of_beq hu,← eq_of_beq hxf];exact List.mem_map_of_mem (f:=fun x:Un=>x.s) hx)
    rw[e];exact Nat.le_refl _
   ·exact ih hL.2
 refine key _ ?_
 unfold utF
 rcases hN with e|e|e|e|e<;>rw[e]
 ·exact(by decide:[gloB].Nodup)
 ·exact(by decide:[nmS 0,gloB].Nodup)
 ·exact(by decide:[nmS 0,nmS 1,gloB].Nodup)
 ·exact(by decide:[nmS 0,nmS 1,gloB,nmS 2].Nodup)
 ·exact(by decide:[nmS 0,nmS 1,gloB,nmS 2,nmS 3].Nodup)
theorem lQ {m:Nat} {g:Int} {l:List (List Int)} {f:List UInt8} {ns:List Int} {q:Int} (h:∀x∈(sPg m (wgl g) g l).fs,x.ps.length≤5000):(agF (sPg m (wgl g) g l) f ns q).length≤5000:=by
 have h1:=lP (f:=f) (l:=ns) (q:=q) h
 have h2:=jz f m (wgl g) (utF g l) ⟨⟨[],[]⟩,[]⟩
 have h3:=A0E f g l
 have h4:nF f (⟨⟨[],[]⟩,[]⟩:Pg).fs=0:=rfl
 have h5:nF f (sPg m (wgl g) g l).fs≤1:=by unfold sPg prF;omega
 omega
end Go.Proofs.Ytjnnmindcbgjhaa
namespace Go.Proofs.Ytjnnmindcbgjhaa
open Go Go.Sy Go.RowKit
def ltF (l:List (List Int)) (n:Int):Bool:=!(decide (4<(l.length:Int)))&&l.all fun b=>!(decide (n<(b.length:Int)))
theorem A0F {l:List (List Int)} {i:Nat} (h:i<l.length) (p:List Int→Bool):(l.drop i).all p=(p (l.getD i [])&&(l.drop (i+1)).all p):=by
 rw[List.drop_eq_getElem_cons h,List.all_cons]
 simp only[List.getD,List.getElem?_eq_getElem h,Option.getD_some]
abbrev Wl (l:List (List Int)) (n:Int):Prop:=l.length≤maxLen
abbrev II (l:List (List Int)) (n:Int):SV:=.one (.v (.bool (ltF l n)))
noncomputable abbrev SJ:ArgC ((List (List Int))×(Int)×Unit):=(acS (cBl) (acS (cInt .i64) ac0))
abbrev fR:Prop:=Cc Try.prog 12 SJ (fun p:(List (List Int))×(Int)×Unit=>Wl p.1 p.2.1) (fun p:(List (List Int))×(Int)×Unit=>II p.1 p.2.1)
theorem fS:∀p:(List (List Int))×(Int)×Unit,((fun p:(List (List Int))×(Int)×Unit=>II p.1 p.2.1) p).names=[]:=by intro p;rfl
attribute [local go_sem] WP WO uD
theorem lR:fR:=by
 rintro ⟨l,n,_u⟩ w fz xs hc hfz hl hx
 refine Bj Try.func12 rfl w fz [] [] SJ (fun p:(List (List Int))×(Int)×Unit=>II p.1 p.2.1) _ xs hfz hl hx (jN rfl) ?_
 clear hx hl hfz xs
 simp only[Try.f12]
 have hc:l.length≤9223372036854775807:=Nat.le_trans (show l.length≤maxLen from hc) (by decide)
 cases h4:decide (4<(l.length:Int)) with
 |true=>
  have hr:ltF l n=false:=by unfold ltF;rw[h4];rfl
  simp only[↓eB,seval,go_sem,h4]
  refine A0 [] ?_;simp only[↓eB,seval,go_sem,bne,II,hr]
 |false=>
  obtain⟨p,hp⟩:∃p:List Int→Bool,(fun b=>!(decide (n<(b.length:Int))))=p:=⟨_,rfl⟩
  have hr:ltF l n=l.all p:=by unfold ltF;rw[h4,← hp];rfl
  simp only[↓eB,seval,go_sem,h4]
  refine Ab (Y:=Nat) (fun i=>i≤l.length∧(l.drop i).all p=l.all p)
   (fun i=>⟨[(0,true,.one (.d (.sl I8 (l.map Gg)))),(1,true,.one (.v (.int .i64 n))),(5,true,.one (.v (.int .i64 (i:Int))))],[]⟩)
   (fun i=>l.length-i) 0 ⟨Nat.zero_le _,rfl⟩ ?_ ?_
  ·refine A4 [] ?_;simp only[↓eB,seval,go_sem]
  ·rintro i ⟨hi,hJ⟩
   refine Au [] [] _ _ _ ?_
   by_cases hlt:i<l.length
   ·have h1:decide ((i:Int)<(l.length:Int))=true:=decide_eq_true (by omega)
    have w1:IntKind.i64.wrap ((i:Int)+1)=((i+1:Nat):Int):=by rw[wrap_i64 (by omega) (by omega)];rfl
    have hz:=cQ hlt
    have hil:(i:Int)<(l.length:Int):=by omega
    rw[A0F hlt]at hJ
    have hpb:p (l.getD i []) = !(decide (n<((l.getD i []).length:Int))):=by rw[← hp]
    rw[hpb]at hJ
    generalize l.getD i []=b at hz hJ hpb
    cases hb:decide (n<(b.length:Int)) with
    |true=>
     have hr2:ltF l n=false:=by rw[hr,← hJ,hb];rfl
     simp only[↓eB,seval,go_sem,h1,hz,hb]
     refine⟨⟨hil,rfl⟩,?_⟩
     refine A0 [] ?_;simp only[↓eB,seval,go_sem,bne,II,hr2]
    |false=>
     have hJ2:(l.drop (i+1)).all p=l.all p:=by rw[← hJ,hb];rfl
     simp only[↓eB,seval,go_sem,h1,w1,hz,hb]
     refine⟨⟨hil,rfl⟩,i+1,⟨hlt,hJ2⟩,(by omega),?_⟩
     refine A4 [] ?_;simp only[↓eB,seval,go_sem]
   ·have h1:decide ((i:Int)<(l.length:Int))=false:=decide_eq_false (by omega)
    have hr2:ltF l n=true:=by rw[hr,← hJ,List.drop_of_length_le (by omega)];rfl
    simp only[↓eB,seval,go_sem,h1]
    refine A0 [] ?_;simp only[↓eB,seval,go_sem,bne,II,hr2]
noncomputable def Wm {X:Ctx} {w0:World}:Sy.Spec Try.prog X w0:=DD 12 Try.call12 SJ (fun p:(List (List Int))×(Int)×Unit=>Wl p.1 p.2.1) (fun p:(List (List Int))×(Int)×Unit=>II p.1 p.2.1) fS lR
end Go.Proofs.Ytjnnmindcbgjhaa
namespace Go.Proofs.Ytjnnmindcbgjhaa
open Go Go.Sy Go.RowKit
def plF (k:Int):Int:=if decide (k.tmod 4<0)=true then w64i (k.tmod 4+4) else k.tmod 4
theorem kA (k:Int) : -4<k.tmod 4∧k.tmod 4<4:=by
 refine⟨?_,Int.tmod_lt_of_pos k (by decide)⟩
 have:=Int.tmod_lt_of_pos (-k) (b:=4) (by decide)
 rw[Int.neg_tmod]at this
 omega
theorem tY (k:Int):0≤plF k∧plF k<4:=by
 have:=kA k
 unfold plF
 split
 ·rename_i h
  have h:=of_decide_eq_true h
  unfold w64i;rw[wrap_i64 (by omega) (by omega)];omega
 ·rename_i h
  simp only[decide_eq_true_eq]at h
  omega
abbrev Wn (k:Int) (n:Int):Prop:=n=4
abbrev Jb (k:Int) (n:Int):SV:=SV.one (.v (.int .i64 (plF k)))
theorem lS:Cc Try.prog 15 (acS (cInt .i64) (acS (cInt .i64) ac0)) (fun p:(Int×(Int×Unit))=>Wn p.1 p.2.1) (fun p:(Int×(Int×Unit))=>Jb p.1 p.2.1):=by
 rintro ⟨k,n,_u⟩ w fz xs hc hfz hl hx
 refine Bj Try.func15 rfl w fz [] [] (acS (cInt .i64) (acS (cInt .i64) ac0)) (fun p:(Int×(Int×Unit))=>Jb p.1 p.2.1) _ xs hfz hl hx (jN rfl) ?_
 clear hx hl hfz xs
 simp only[Try.f15]
 have hc:n=4:=hc
 subst hc
 have h1:=kA k
 cases h2:decide (k.tmod 4<0) with
 |true=>
  have hr:plF k=w64i (k.tmod 4+4):=by unfold plF;rw[if_pos h2]
  simp only[↓eB,seval,go_sem,h2]
  try simp only[A2,A3]
  repeat' first|exact ck|with_reducible apply And.intro|intro _
  all_goals first|exact h1|(rename_i h;first|exact oI h|exact nah h)|(rename_i _ h _ g;exact sL h g)|decide|omega|(refine A0 [] ?_;simp only[↓eB,seval,go_sem,bne,Jb,hr])
 |false=>
  have hr:plF k=k.tmod 4:=by unfold plF;rw[if_neg (by rw[h2];decide)]
  simp only[↓eB,seval,go_sem,h2]
  try simp only[A2,A3]
  repeat' first|exact ck|with_reducible apply And.intro|intro _
  all_goals first|exact h1|(rename_i h;first|exact oI h|exact nah h)|(rename_i _ h _ g;exact sL h g)|decide|omega|(refine A0 [] ?_;simp only[↓eB,seval,go_sem,bne,Jb,hr])
theorem fT:∀p:(Int×(Int×Unit)),((fun p:(Int×(Int×Unit))=>Jb p.1 p.2.1) p).names=[]:=by intro p;first|rfl|simp[SV.names,C.names]
noncomputable def Wo {X:Ctx} {w0:World}:Sy.Spec Try.prog X w0:=DD 15 Try.call15 (acS (cInt .i64) (acS (cInt .i64) ac0)) (fun p:(Int×(Int×Unit))=>Wn p.1 p.2.1) (fun p:(Int×(Int×Unit))=>Jb p.1 p.2.1) fT lS
end Go.Proofs.Ytjnnmindcbgjhaa
namespace Go.Proofs.Ytjnnmindcbgjhaa
open Go Go.Sy Go.RowKit
noncomputable def suN (g:Int) (l:List (List Int)):Nat:=(sUn g l).choose
noncomputable def suM (g:Int) (l:List (List Int)):Nat:=(sUn g l).choose_spec.choose
theorem A0G (g:Int) (l:List (List Int)):∀u∈utF g l,okUn (suN g l) (suM g l) (wgl g) u:=(sUn g l).choose_spec.choose_spec.2
theorem A0H {l:List (List Int)} (h:ltF l 100=true) (hb:∀x∈l,x.length≤maxLen∧∀y∈x,u8R y):l.length≤4∧∀b∈l,okY b:=by
 unfold ltF at h
 rw[Bool.and_eq_true]at h
 have h1:¬(4:Int)<(l.length:Int):=by
  intro hh;rw[decide_eq_true hh]at h;exact absurd h.1 (by decide)
 refine⟨by omega,fun b hbl=>?_⟩
 have h2:=List.all_eq_true.1 h.2 b hbl
 have h3:¬(100:Int)<(b.length:Int):=by
  intro hh;rw[decide_eq_true hh]at h2;exact absurd h2 (by decide)
 exact⟨by omega,fun y hy=>by have:=(hb b hbl).2 y hy;unfold u8R at this;omega⟩
noncomputable section
abbrev aD (g:Int) (l:List (List Int)) (k:Int) (ns:List Int) (q:Int) (a:Int) (b:Int):Prop:=u8R g∧(l.length≤maxLen∧∀x∈l,x.length≤maxLen∧∀y∈x,u8R y)∧V5 k∧(ns.length≤maxLen∧∀x∈ns,V5 x)∧u8R q∧ak a∧ak b
abbrev Iv (g:Int) (l:List (List Int)) (k:Int) (ns:List Int) (q:Int) (a:Int) (b:Int):Value:=Value.bool true
attribute [local go_sem] Na.r Nb.r Ou.c WP WO kS kR aK kQ A0o Rm Rl cSl PI Qw uK dv BD BH dw mW ouC pgR pqR A0n A0l A0m stR XS dG Wm Ec TO Wo Tp Wh II Fy Iz Jb J5 Kh uJ
theorem bt:M4 Try.prog 3 (ahS ((cInt .u8).H) (ahS (cBl.H) (ahS ((cInt .i64).H) (ahS (cSl rI6) (ahS ((cInt .u8).H) (ahS ((cInt .u16).H) (ahS ((cInt .u16).H) ah0))))))) (fun p:(Int×(List (List Int)×(Int×(List Int×(Int×(Int×(Int×Unit)))))))=>aD p.1 p.2.1 p.2.2.1 p.2.2.2.1 p.2.2.2.2.1 p.2.2.2.2.2.1 p.2.2.2.2.2.2.1) (fun p:(Int×(List (List Int)×(Int×(List Int×(Int×(Int×(Int×Unit)))))))=>ofV (Iv p.1 p.2.1 p.2.2.1 p.2.2.2.1 p.2.2.2.2.1 p.2.2.2.2.2.1 p.2.2.2.2.2.2.1)):=by
 rintro ⟨g,l,k,ns,q,a,b,_u⟩ w fz xs hc hfz hl hx
 refine J7 Try.func3 rfl w fz [Tp,Wm,(dG (suN g l) (suM g l) (wgl g) (A11 (suN g l) (suM g l) (wgl g))),Wo,Ec,Wh,(XS (suN g l) (pU (suN g l))),TO] [] (ahS ((cInt .u8).H) (ahS (cBl.H) (ahS ((cInt .i64).H) (ahS (cSl rI6) (ahS ((cInt .u8).H) (ahS ((cInt .u16).H) (ahS ((cInt .u16).H) ah0))))))) (fun p:(Int×(List (List Int)×(Int×(List Int×(Int×(Int×(Int×Unit)))))))=>ofV (Iv p.1 p.2.1 p.2.2.1 p.2.2.2.1 p.2.2.2.2.1 p.2.2.2.2.2.1 p.2.2.2.2.2.2.1)) _ xs hfz hl hx (jN rfl) ?_
 clear hx hl hfz xs
 simp only[Try.f3]
 obtain⟨⟨g0,g1⟩,⟨l0,l1⟩,⟨k0,k1⟩,⟨n0,n1⟩,⟨q0,q1⟩,⟨a0,a1⟩,⟨b0,b1⟩⟩:=hc
 dsimp only at g0 g1 l0 l1 k0 k1 n0 n1 q0 q1 a0 a1 b0 b1
 cases hL:ltF l 100 with
 |false=>
  simp only[↓eB,seval,go_sem,iD,hL]
  refine⟨l0,?_⟩
  refine A0 [] ?_;simp only[↓eB,seval,go_sem,bne,Iv]
 |true=>
  obtain⟨lk1,lk2⟩:=A0H hL l1
  cases h6:decide (6<(ns.length:Int)) with
  |true=>
   simp only[↓eB,seval,go_sem,iD,hL,h6]
   refine⟨l0,?_⟩
   refine A0 [] ?_;simp only[↓eB,seval,go_sem,bne,Iv]
  |false=>
   have hu:=A0G g l
   have hU:X5 (suN g l) (suM g l) (wgl g) g l:=⟨⟨g0,by show l.length≤1000000;omega,lk2⟩,hu⟩
   have hp:=(tY k).1
   have hR:=fun (s:Sta) (va:List Va) (fuel:Int) (k:Nat) hv h1 h2 hf hk=>A14 (s:=s) (va:=va) (fuel:=fuel) (k:=k) hu hv h1 h2 hf hk
   have hag:=fun f=>lQ (m:=suM g l) (g:=g) (l:=l) (f:=f) (ns:=ns) (q:=q) (fun x hx=>((hR ⟨[],[]⟩ [] 0 1 (Nat.zero_le _) (Nat.zero_le _) (Nat.zero_le _) (by decide) (by decide)).p.f x hx).1.1)
   obtain⟨P,hPe⟩:∃P,sPg (suM g l) (wgl g) g l=P:=⟨_,rfl⟩
   rw[hPe]at hR
   simp only[hPe]at hag
   obtain⟨v,hv⟩:∃v,agF P (nmS (plF k)) ns q=v:=⟨_,rfl⟩
   have hvl:v.length≤5000:=by rw[← hv];exact hag _
   have hR0:=hR ⟨[],[]⟩ [] 0 1 (Nat.zero_le _) (Nat.zero_le _) (Nat.zero_le _) (by decide) (by decide)
   have h6':¬(6:Int)<(ns.length:Int):=of_decide_eq_false h6
   have hA:SG P (nmS (plF k)) ns q:=⟨hR0.c,by omega,hR0.p.l,fun x hx=>(hR0.p.f x hx).1.1,q0,q1⟩
   have ha0:0≤mn a b∧0≤mx a b:=by unfold mn mx;constructor<;>split<;>omega
   obtain⟨F,hF⟩:∃F,(mn a b).tmod 500=F:=⟨_,rfl⟩
   obtain⟨G,hG⟩:∃G,(mx a b).tmod 500=G:=⟨_,rfl⟩
   have f0:0≤F∧F<500:=by rw[← hF];exact⟨Int.tmod_nonneg 500 ha0.1,Int.tmod_lt_of_pos _ (by decide)⟩
   have f1:0≤G∧G<500:=by rw[← hG];exact⟨Int.tmod_nonneg 500 ha0.2,Int.tmod_lt_of_pos _ (by decide)⟩
   have w0:IntKind.i64.wrap F=F:=wrap_i64 (by omega) (by omega)
   have w1:IntKind.i64.wrap G=G:=wrap_i64 (by omega) (by omega)
   have w2:IntKind.i64.wrap (F+G)=F+G:=wrap_i64 (by omega) (by omega)
   have c1:Q2 (suN g l) P (nmS (plF k)) v ⟨[],[]⟩ F:=⟨by omega,hR _ _ _ _ hvl (Nat.zero_le _) (Nat.zero_le _) (by omega) (by omega)⟩
   have c2:Q2 (suN g l) P (nmS (plF k)) v ⟨[],[]⟩ (F+G):=⟨by omega,hR _ _ _ _ hvl (Nat.zero_le _) (Nat.zero_le _) (by omega) (by omega)⟩
   have hk:=A1g (n:=F.toNat+1) (P:=P) (f:=nmS (plF k)) (va:=v) (s:=⟨[],[]⟩) (a:=F) (by omega)
   have hpl:=A1f (P:=P) (f:=nmS (plF k)) (va:=v) (s:=⟨[],[]⟩) (a:=F) (b:=F+G) f0.1 (by omega) (by omega)
   change (clA P (nmS (plF k)) v ⟨[],[]⟩ F).cs.length=_∧(clA P (nmS (plF k)) v ⟨[],[]⟩ F).ar.map naL=_ at hk
   obtain⟨m,hm⟩:∃m,clA P (nmS (plF k)) v ⟨[],[]⟩ F=m:=⟨_,rfl⟩
   rw[hm]at hk hpl
   have hst:=ZS P.g.a [] (fun x hx=>(hR0.l x hx).2)
   have lc:m.cs.length≤1000000:=by have h:=hk.1;rw[gL]at h;have:=hR0.c;omega
   have la:m.ar.length≤1000000:=by
    have h:=congrArg List.length hk.2
    rw[List.length_map,List.length_map,uI]at h
    have:=hR0.a;omega
   have lx:∀x∈m.ar,x.l.length≤1000000000:=fun x hx=>by
    have h:naL x∈m.ar.map naL:=List.mem_map_of_mem hx
    rw[hk.2]at h
    obtain⟨y,hy,e⟩:=List.mem_map.1 h
    have:=hst y hy
    show naL x≤_
    rw[← e];exact this
   clear hk hst
   obtain⟨mf,md,mc,ma,me,mv,mnm,mal,mk⟩:=m
   dsimp only at lc la lx hpl
   cases he:(me==2) with
   |true=>
    simp only[↓eB,seval,go_sem,iD,hL,h6,hPe,Eb,hv,hF,hG,w0,w1,w2,hm,he]
    refine⟨l0,hU,hp,hA,c1,c2,Cs (by kernel_rfl),?_⟩
    refine A0 [] ?_;simp only[↓eB,seval,go_sem,bne,Iv]
   |false=>
    have hm':clA P (nmS (plF k)) v ⟨[],[]⟩ (F+G)=⟨mf+(F+G-F),md,mc,ma,me,mv,mnm,mal,mk⟩:=by
     rcases hpl with h|h
     ·rw[h]at he;exact absurd he (by decide)
     ·exact h
    simp only[↓eB,seval,go_sem,iD,hL,h6,hPe,Eb,hv,hF,hG,w0,w1,w2,hm,hm',he]
    refine⟨l0,hU,hp,hA,c1,c2,Cs (by kernel_rfl),⟨rfl,lc,la,lx⟩,?_⟩
    refine A0 [] ?_;simp only[↓eB,seval,go_sem,bne,Iv]
end
end Go.Proofs.Ytjnnmindcbgjhaa
namespace Go.Proofs.Ytjnnmindcbgjhaa
open Go Go.Sy Go.RowKit Go.ChangeShapes Go.WideShapes Go.ChangeAt
section
variable {H:Type} {enc:TypeId×Value→H} {W:World}
theorem lT (fuel:Nat):O9 enc Try.prog W 80 fuel Gg (fun l=>l.length≤maxLen∧∀x∈l,u8R x):=by
 cases fuel with
 |zero=>exact Qb
 |succ n=>exact Wy id _ _ (Ph Try.underlying80 zBy (by kernel_rfl) (by decide) (Wz Try.underlying5)) (fun _=>rfl) (fun _ h=>⟨h.1,fun x hx=>XN (h.2 x hx)⟩)
theorem fU (fuel:Nat):O9 enc Try.prog W 22 fuel (fun l:List (List Int)=>[.sl I8 (l.map Gg)]) (fun l=>l.length≤maxLen∧∀x∈l,x.length≤maxLen∧∀y∈x,u8R y):=by
 cases fuel with
 |zero=>exact Qb
 |succ n=>exact Ph Try.underlying22 I8 (by kernel_rfl) (by decide) (lT n)
variable {base:Nat} {v:Value} {d:DataW H} {p:List MemPlace}
theorem YQ (hv:Value.okWide Try.prog W .any base 22 v) (h:DataW.Trod enc Try.prog W 0 (fun _=>true) true 22 v d p) :
  ∃l:List (List Int),(l.length≤maxLen∧∀x∈l,x.length≤maxLen∧∀y∈x,u8R y)∧CD (hp W) (fun b=>b<W.heap.size) (.one (.d (.sl I8 (l.map Gg)))) v:=X0 (f:=fun l:List (List Int)=>D.sl I8 (l.map Gg)) (r:=.any) (base:=base) (Vg Try.underlying22 hv) h fU
end
end Go.Proofs.Ytjnnmindcbgjhaa
