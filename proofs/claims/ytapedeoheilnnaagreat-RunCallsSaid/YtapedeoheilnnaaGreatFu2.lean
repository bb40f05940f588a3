/- The seat's programs: one function of a name; what a run leaves is not long. Plain. -/
import Derived.Test.YtapedeoheilnnaaGreatRu1
import Derived.Test.YtapedeoheilnnaaGreatMk5
import Derived.Test.YtapedeoheilnnaaGreatOp
import Derived.Test.YtapedeoheilnnaaGreatZp
import Derived.Test.YtapedeoheilnnaaGreatRmn
set_option linter.all false
set_option maxRecDepth 20000
set_option maxHeartbeats 16000000
open Nat (zero_le)
open List (length_map)
namespace Go.Proofs.YtapedeoheilnnaaGreat
open Go Go.Sy Go.RowKit
theorem ABD{P:Prop}(h:P:=by
 refine⟨l0,?_⟩
 refine A1 [] ?_;simp only[seval,go_sem,bne,Ip]):P:=h
variable{f:List UInt8}
theorem y5{P:Prop}(h:P:=by (repeat' first|exact ck|with_reducible apply And.intro|intro _);all_goals first|exact h1|exact hn0|exact KZ|(refine A1 [] ?_;simp only[seval,go_sem,bne,Oy,hr])):P:=h
def nF(f:List UInt8)(l:List Fn):Nat:=(l.filter λg=>g.name==f).length
theorem y6(f:List UInt8)(l:List Fn)(G:Fn):nF f (insF l G)=nF f l+(if (G.name==f)=true then 1 else 0):=by
 unfold nF insF
 rw[List.filter_append,List.filter_cons,List.length_append]
 have h:=congrArg (λx=>(List.filter (λg:Fn=>g.name==f) x).length) (List.take_append_drop (LH l G.name l.length) l)
 rw[List.filter_append,List.length_append]at h
 split<;>(try simp only[List.length_cons])<;>omega
def nU(f:List UInt8)(l:List Un):Nat:=(l.filter λu=>u.s==f).length
theorem A2y(f:List UInt8)(m:Nat)(gl:List UInt8->List Gi)(P:Pg)(u:Un):nF f (upP m gl P u).fs<=nF f P.fs+(if (u.s==f)=true then 1 else 0):=by
 unfold upP
 split
 .exact Nat.le_add_right _ _
 split
 .exact Nat.le_add_right _ _
 split
 .exact Nat.le_add_right _ _
 rename_i hr
 rw[y6]
 have hn:(IV (Fp u.t).1 u.s m).1.name=u.s:=by
  unfold IV at hr ⊢
  split
  .rename_i h3;rw[if_pos h3]at hr;exact absurd rfl hr
  rename_i h3;rw[if_neg h3]at hr
  split
  .rename_i h4;rw[if_pos h4]at hr;exact absurd rfl hr
  rename_i h4;rw[if_neg h4]at hr
  split
  .rename_i h5;rw[if_pos h5]at hr;exact absurd rfl hr
  have h6:((Fp u.t).1.name==u.s)=true:=by
   cases h7:((Fp u.t).1.name==u.s) with
   |true=>rfl
   |false=>exact absurd (by simp[bne,h7]) h3
  exact eq_of_beq h6
 rw[hn];exact Nat.le_refl _
theorem qX(f:List UInt8)(m:Nat)(gl:List UInt8->List Gi):∀(l:List Un) (P:Pg),nF f (l.foldl (upP m gl) P).fs<=nF f P.fs+nU f l
 |[],P=>Nat.le_refl _
 |u::l,P=>by
  have h1:=qX f m gl l (upP m gl P u)
  have h2:=A2y f m gl P u
  have h3:nU f (u::l)=nU f l+(if (u.s==f)=true then 1 else 0):=by
   unfold nU;rw[List.filter_cons];split<;>rfl
  show nF f (l.foldl (upP m gl) (upP m gl P u)).fs<=_
  omega
theorem sY{P:Pg}{l:List Int}{q:Int}(h:∀g∈P.fs,g.ps.length<=5000):(agF P f l q).length<=nF f P.fs*5000:=by
 unfold agF nF
 generalize P.fs=fs at h
 induction fs with
 |nil=>exact zero_le _
 |cons g r ih=>
 have h1:=ih λx hx=>h x (List.mem_cons_of_mem _ hx)
 have h2:=h g (List.mem_cons_self ..)
 rw[List.flatMap_cons,List.length_append,List.filter_cons]
 unfold agG at h1 ⊢
 split
 .rw[Xf,List.length_cons];omega
 simp only[List.length_nil];omega
theorem A2z(f:List UInt8)(g:Int)(l:List (List Int)):nU f (utF g l)<=1:=by
 have hN:utN l=0∨utN l=1∨utN l=2∨utN l=3∨utN l=4:=by unfold utN;split<;>omega
 have key:∀L:List Un,(L.map (·.s)).Nodup->nU f L<=1:=by
  intro L hL
  unfold nU
  induction L with
  |nil=>exact zero_le _
  |cons u r ih=>
  have hL:=List.nodup_cons.1 hL
  rw[List.filter_cons]
  split
  .rename_i hu
   have e:List.filter (λu=>u.s==f) r=[]:=List.filter_eq_nil_iff.2 λx hx hxf=>hL.1 (by
    show u.s∈_
    rw[eq_of_beq hu,<- eq_of_beq hxf];exact List.mem_map_of_mem (f:=λx:Un=>x.s) hx)
   rw[e];exact Nat.le_refl _
  exact ih hL.2
 refine key _ ?_
 unfold utF
 rcases hN with e|e|e|e|e<;>rw[e]
 .exact(by decide:[gloB].Nodup)
 .exact(by decide:[nmS 0,gloB].Nodup)
 .exact(by decide:[nmS 0,nmS 1,gloB].Nodup)
 .exact(by decide:[nmS 0,nmS 1,gloB,nmS 2].Nodup)
 exact(by decide:[nmS 0,nmS 1,gloB,nmS 2,nmS 3].Nodup)
theorem sZ{m:Nat}{g:Int}{l:List (List Int)}{ns:List Int}{q:Int}(h:∀x∈(sPg m (wgl g) g l).fs,x.ps.length<=5000):(agF (sPg m (wgl g) g l) f ns q).length<=5000:=by
 have h1:=sY (f:=f) (l:=ns) (q:=q) h
 have h2:=qX f m (wgl g) (utF g l) ⟨⟨[],[]⟩,[]⟩
 have h3:=A2z f g l
 have h4:nF f (⟨⟨[],[]⟩,[]⟩:Pg).fs=0:=rfl
 have h5:nF f (sPg m (wgl g) g l).fs<=1:=by unfold sPg prF;omega
 omega
def plG(k n:Int):Int:=if decide (k.tmod n<0)=true then w64i (k.tmod n+n) else k.tmod n
theorem qY(k:Int){n:Int}(h:1<=n): -n<k.tmod n/\k.tmod n<n:=by
 refine⟨?_,Int.tmod_lt_of_pos k (by omega)⟩
 have:=Int.tmod_lt_of_pos (-k) (b:=n) (by omega)
 rw[Int.neg_tmod]at this
 omega
theorem iU(k:Int){n:Int}(h:1<=n)(h2:n<=1000000):0<=plG k n/\plG k n<n:=by
 have:=qY k h
 unfold plG
 split
 .rename_i h
  have h:=of_decide_eq_true h
  unfold w64i;rw[wrap_i64 (by omega) (by omega)];omega
 rename_i h
 simp only[decide_eq_true_eq]at h
 omega
abbrev iV(k:Int)(n:Int):Prop:=1<=n/\n<=1000000
abbrev Oy(k:Int)(n:Int):SV:=.one (.v (.int .i64 (plG k n)))
noncomputable abbrev SA:ArgC ((Int)×(Int)×Unit):=(acS (cInt .i64) (acS (cInt .i64) ac0))
abbrev iW:Prop:=Ca Tryz.prog 11 SA (λp:(Int)×(Int)×Unit=>iV p.1 p.2.1) (λp:(Int)×(Int)×Unit=>Oy p.1 p.2.1)
theorem mZ:iW:=by
 rintro ⟨k,n,_u⟩ w fz xs hc hfz hl hx
 refine Bg Tryz.func11 rfl w fz [] [] SA (λp:(Int)×(Int)×Unit=>Oy p.1 p.2.1) _ xs hfz hl hx (jN rfl) ?_
 clear hx hl hfz xs
 simp only[Tryz.f11]
 obtain⟨hc1,hc2⟩:=hc
 dsimp only at hc1 hc2
 have h1:=qY k hc1
 have hn0:n≠0:=by omega
 cases h2:decide (k.tmod n<0) with
 |true=>
  have hr:plG k n=w64i (k.tmod n+n):=by unfold plG;rw[if_pos h2]
  simp only[seval,go_sem,h2]
  try simp only[AD,AE]
  try exact y5
 |false=>
 have hr:plG k n=k.tmod n:=by unfold plG;rw[if_neg (by rw[h2];decide)]
 simp only[seval,go_sem,h2]
 try simp only[AD,AE]
 try exact y5
noncomputable def YL{X:Ctx}{w0:World}:Sy.Spec Tryz.prog X w0:=Dq 11 Tryz.call11 SA _ _ KF3 mZ
abbrev YM(p:Pg):Prop:=p.g.c.length<=1000000/\p.g.a.length<=1000000/\∀x∈p.g.a,x.n<=1048576
abbrev Oz(p:Pg):SV:=.agg (stR ⟨blC p.g.c,blA p.g.a⟩)
noncomputable abbrev SB:ArgC ((Pg)×Unit):=(acS (cPg) ac0)
abbrev iX:Prop:=Ca Tryz.prog 17 SB (λp:(Pg)×Unit=>YM p.1) (λp:(Pg)×Unit=>Oz p.1)
attribute[local go_sem] Fa.mem Fa.memO Fa.pan ML.ch ML.ren H4 Gz H5 Di GM GL chL IJ F6 F5 Gv fcN frC IK Gx lmH lmO Tj P4 Ti Tm Tk Tl IL Hm DH Cj Ck nmX pgR Dh D3 D4 ED E9 E5 EE rnC Ci DS Cu stR CU E8 vrQ IM xt in
theorem mc:iX:=by
 rintro ⟨p,_u⟩ w fz xs hc hfz hl hx
 refine Bg Tryz.func17 rfl w fz [] [] SB (λp:(Pg)×Unit=>Oz p.1) _ xs hfz hl hx (jN rfl) ?_
 clear hx hl hfz xs
 simp only[Tryz.f17]
 obtain⟨⟨pc,pa⟩,pf⟩:=p
 obtain⟨hc1,hc2,hc3⟩:=hc
 dsimp only at hc1 hc2 hc3
 simp only[seval,go_sem,↓A0,LL,LM]
 refine AC (Y:=Nat) (λi=>i<=pc.length)
  (λi=>⟨[(1,true,.one (.p 1 0 0)),(2,true,.one (.p 2 0 0)),(3,true,.one (.p 3 0 0)),(10,true,.one (.d (.sl Fq (pc.map cSd)))),(11,true,.one (.v (.int .i64 (pc.length:Int)))),(12,true,.one (.v (.int .i64 (i:Int))))],
   [(1,.vec 0 [.v (.bool false),.v (.bool false),.v (.bool false)] [pgR ⟨⟨pc,pa⟩,pf⟩]),(2,.vec 0 (tgN 27 2) [[.v (.slice none 0 0),.v (.slice none 0 0)]]),(3,.vec 0 (tgN 27 2) [[.s 1000,.v (.slice none 0 0)]]),(1000,.vec 0 zNb ((blC (pc.take i)).map Nb.c))]⟩)
  (λi=>pc.length-i) 0 (zero_le _) ?_ ?_
 .refine A2 [.nilr 3 0 0 1000 zNb] ?_;simp only[seval,go_sem,↓A0,zNb,dl]
 rintro i hi
 refine AP [] [] _ _ _ ?_
 have w1:IntKind.i64.wrap ((i:Int)+1)=((i+1:Nat):Int):=by rw[wrap_i64 (by omega) (by omega)];rfl
 cases hx:pc[i]? with
 |none=>
  have h2:=List.getElem?_eq_none_iff.1 hx
  have h1:=Ai h2
  simp only[seval,go_sem,↓A0,h1]
  rw[List.take_of_length_le h2]
  refine AC (Y:=Nat) (λi=>i<=pa.length)
   (λi=>⟨[(2,true,.one (.p 2 0 0)),(3,true,.one (.p 3 0 0)),(26,true,.one (.d (.sl GP (pa.map Gy.r)))),(27,true,.one (.v (.int .i64 (pa.length:Int)))),(28,true,.one (.v (.int .i64 (i:Int))))],
    [(2,.vec 0 (tgN 27 2) [[.v (.slice none 0 0),.v (.slice none 0 0)]]),(3,.vec 0 (tgN 27 2) [[.s 1000,.s 1001]]),(1000,.vec 0 zNb ((blC pc).map Nb.c)),(1001,.vec 0 zNa ((blA (pa.take i)).map Na.c))]⟩)
   (λi=>pa.length-i) 0 (zero_le _) ?_ ?_
  .refine A2 [.nilr 3 0 1 1001 zNa] ?_;simp only[seval,go_sem,↓A0,zNa,dm,Ez]
  rintro j hj
  refine AP [] [] _ _ _ ?_
  have w2:IntKind.i64.wrap ((j:Int)+1)=((j+1:Nat):Int):=by rw[wrap_i64 (by omega) (by omega)];rfl
  cases hy:pa[j]? with
  |none=>
   have g2:=List.getElem?_eq_none_iff.1 hy
   have g1:=Ai g2
   simp only[seval,go_sem,↓A0,g1,E0,FF]
   rw[List.take_of_length_le g2]
   refine A1 [.fz 1000,.fz 1001] ?_;simp only[seval,go_sem,bne,Oz,SP,SQ,LO,LP,Ez,G9,zNb,zNa]
  |some y=>
  obtain⟨ys,yn⟩:=y
  have glt:=(List.getElem?_eq_some_iff.1 hy).1
  have g1:=Ah glt
  have gs:(pa.map Gy.r).getD j GP=Gy.r ⟨ys,yn⟩:=by simp[List.getD,hy]
  simp only[seval,go_sem,↓A0,g1,w2,gs,Gy.r]
  have hy3:=hc3 ⟨ys,yn⟩ (List.mem_of_getElem? hy)
  dsimp only at hy3
  have hmx:mx 0 yn=((yn.toNat:Nat):Int):=by unfold mx;split<;>omega
  have hml:yn.toNat<=1048576:=by omega
  have hjl:(j:Int)<(pa.length:Int):=by omega
  have hbl:(blA (List.take j pa)).length=j:=by simp[blA];omega
  have hrs:BS [[C.v (.string (bs ys)),C.s 39]]:=by
   exact r9
  have ht:(blA (pa.take (j+1))).map Na.c=(blA (pa.take j)).map Na.c++[[.v (.string (bs ys)),.ov zI ((List.replicate yn.toNat (0:Int)).map cI)]]:=by
   rw[List.take_add_one,hy];simp[blA,Na.c]
  have hge:((blA (pa.take j)).map Na.c++[[C.v (.string (bs ys)),C.s 39]])[j]?=some [C.v (.string (bs ys)),C.s 39]:=by
   rw[List.getElem?_append_right (by rw[length_map,hbl];exact Nat.le_refl _),length_map,hbl,Nat.sub_self];rfl
  have hst:∀r:List C,((blA (pa.take j)).map Na.c++[[C.v (.string (bs ys)),C.s 39]]).set j r=(blA (pa.take j)).map Na.c++[r]:=by
   exact ABP
  have htn:(((yn.toNat:Nat):Int)).toNat=yn.toNat:=Int.toNat_natCast _
  refine⟨⟨hjl,rfl⟩,⟨(by rw[hmx];omega),(by rw[hmx];omega),(by rw[hmx];omega)⟩,⟨⟨rfl,.inl rfl⟩,(λq h=>(by cases h;rfl)),hrs,(by decide),(by rw[hbl];omega),(by rw[hbl];omega)⟩,Bn (by kernel_rfl),j+1,glt,(by omega),BU (t:=⟨[(2,true,.one (.p 2 0 0)),(3,true,.one (.p 3 0 0)),(26,true,.one (.d (.sl GP (pa.map Gy.r)))),(27,true,.one (.v (.int .i64 (pa.length:Int)))),(28,true,.one (.v (.int .i64 ((j+1:Nat):Int))))],
   [(2,.vec 0 (tgN 27 2) [[.v (.slice none 0 0),.v (.slice none 0 0)]]),(3,.vec 0 (tgN 27 2) [[.s 1000,.s 42]]),(1000,.vec 0 zNb ((blC pc).map Nb.c)),(42,.vec 0 zNa ((blA (pa.take (j+1))).map Na.c))]⟩) ?_ ?_⟩
  .refine A2 [.fold 42 j 1] ?_;simp only[seval,go_sem,↓A0,hge,hst,hmx,htn,ht,Ez,G9,E0,jp,Vx,zI,List.flatMap_append]
  refine A2 [.mv 42 1001] ?_;simp only[seval,go_sem,↓A0,Ez,G9,FF,E0]
 |some s=>
 have hlt:=(List.getElem?_eq_some_iff.1 hx).1
 have h1:=Ah hlt
 have hs:(pc.map cSd).getD i Fq=cSd s:=by simp[List.getD,hx]
 simp only[seval,go_sem,↓A0,h1,w1,hs,cSd]
 have hil:(i:Int)<(pc.length:Int):=by omega
 have hbl:(blC (List.take i pc)).length=i:=by simp[blC];omega
 have ht:(blC (pc.take (i+1))).map Nb.c=(blC (pc.take i)).map Nb.c++[[.v (.string (bs s)),.v (.int .i64 0)]]:=by
  rw[List.take_add_one,hx];simp[blC,Nb.c]
 have hrs:BS [[C.v (.string (bs s)),C.v (.int .i64 0)]]:=by
  exact r9
 refine⟨⟨hil,rfl⟩,⟨⟨rfl,.inl rfl⟩,(λq h=>(by cases h;rfl)),hrs,(by decide),(by rw[hbl];omega),(by rw[hbl];omega)⟩,i+1,hlt,(by omega),BU (t:=⟨[(1,true,.one (.p 1 0 0)),(2,true,.one (.p 2 0 0)),(3,true,.one (.p 3 0 0)),(10,true,.one (.d (.sl Fq (pc.map cSd)))),(11,true,.one (.v (.int .i64 (pc.length:Int)))),(12,true,.one (.v (.int .i64 ((i+1:Nat):Int))))],
   [(1,.vec 0 [.v (.bool false),.v (.bool false),.v (.bool false)] [pgR ⟨⟨pc,pa⟩,pf⟩]),(2,.vec 0 (tgN 27 2) [[.v (.slice none 0 0),.v (.slice none 0 0)]]),(3,.vec 0 (tgN 27 2) [[.s 21,.v (.slice none 0 0)]]),(21,.vec 0 zNb ((blC (pc.take (i+1))).map Nb.c))]⟩) ?_ ?_⟩
 .refine A2 [] ?_;simp only[seval,go_sem,↓A0,ht,Ez,List.map_append,List.flatMap_append]
 refine A2 [.mv 21 1000] ?_;simp only[seval,go_sem,↓A0,Ez,E0]
noncomputable def YN{X:Ctx}{w0:World}:Sy.Spec Tryz.prog X w0:=Dq 17 Tryz.call17 SB _ _ KF3 mc
abbrev iY(N:Nat)(n:Nat)(p:Pg)(f:List UInt8)(va:List Va)(s:Sta)(fuel:Int):Prop:=okR N n p va s fuel/\Ii p
abbrev YO(N:Nat)(n:Nat)(p:Pg)(f:List UInt8)(va:List Va)(s:Sta)(fuel:Int):SV:=.agg (ouC (clF n p f va s fuel))
noncomputable abbrev YP:ArgC ((Pg)×(List UInt8)×(List Va)×(Sta)×(Int)×Unit):=(acS (cPg) (acS (cStr) (acS (Mr) (acS (cSta) (acS (cInt .i64) ac0)))))
abbrev YQ(N:Nat)(n:Nat):Prop:=Ca Tryz.prog 15 YP (λp:(Pg)×(List UInt8)×(List Va)×(Sta)×(Int)×Unit=>iY N n p.1 p.2.1 p.2.2.1 p.2.2.2.1 p.2.2.2.2.1) (λp:(Pg)×(List UInt8)×(List Va)×(Sta)×(Int)×Unit=>YO N n p.1 p.2.1 p.2.2.1 p.2.2.2.1 p.2.2.2.2.1)
noncomputable def YR{X:Ctx}{w0:World}(N:Nat)(n:Nat)(h:YQ N n):Sy.Spec Tryz.prog X w0:=Dq 15 Tryz.call15 YP _ _ KF3 h
theorem iZ{P:Program}{f:FuncId}{A:Type}{ac:ArgC A}{Cd Cd':A->Prop}{F G:A->SV}(h:Ca P f ac Cd F)(hc:∀a,Cd' a->Cd a/\F a=G a):Ca P f ac Cd' G:=by
 intro a w fz xs ha hfz hl hx
 obtain⟨h1,h2⟩:=hc a ha
 have:=h a w fz xs h1 hfz hl hx
 rw[h2]at this
 exact this
theorem mf(N n:Nat):YQ N n:=iZ (xi N n) λa ha=>⟨⟨ha.1,xK ha.2⟩,congrArg SV.agg (A2B ha.2 ha.1.f)⟩
theorem y7(p:List (List UInt8)):stCs p []=blC p:=by
 unfold stCs
 conv=>rhs;rw[<- List.map_id (blC p)]
 exact List.map_congr_left λx _=>rfl
theorem A30(p:List Gy):stA p []=blA p:=by
 unfold stA
 conv=>rhs;rw[<- List.map_id (blA p)]
 exact List.map_congr_left λx _=>rfl
theorem sd{N n:Nat}{P:Pg}{f:List UInt8}{va:List Va}{s:Sta}{fuel:Int}(h:okR N n P va s fuel)(h2:fuel<=1000000):(clF n P f va s fuel).cs.length<=1000000/\(clF n P f va s fuel).ar.length<=1000000/\∀x∈(clF n P f va s fuel).ar,x.l.length<=1000000000:=by
 have hk:=A4c (n:=n) (P:=P) (f:=f) (va:=va) (s:=s) (a:=fuel) h2
 have hst:=Xb P.g.a s.ar (λx hx=>(h.l x hx).2)
 refine⟨?_,?_,λx hx=>?_⟩
 .have h1:=hk.1;rw[ON]at h1;have:=h.c;omega
 .have h1:=congrArg List.length hk.2
  rw[length_map,length_map,W6]at h1
  have:=h.a;omega
 have h1:naL x∈(clF n P f va s fuel).ar.map naL:=List.mem_map_of_mem hx
 rw[hk.2]at h1
 obtain⟨y,hy,e⟩:=List.mem_map.1 h1
 have:=hst y hy
 show naL x<=_
 rw[<- e];exact this
noncomputable def rI6:RowC Int:=rowOf zIw iD aD λ_=>rfl
theorem A31:rI6.e=iD:=rfl
theorem A32:rI6.z=zIw:=rfl
theorem y8:zIw.length=1:=rfl
noncomputable section
abbrev cV(g:Int)(l:List (List Int))(k:Int)(ns:List Int)(q:Int)(s:Sta)(fu:Int):Prop:=u8R g/\(l.length<=maxLen/\∀x∈l,x.length<=maxLen/\∀y∈x,u8R y)/\Uo k/\(ns.length<=maxLen/\∀x∈ns,Uo x)/\u8R q/\(s.cs.length<=maxLen/\s.ar.length<=maxLen/\∀x∈s.ar,x.l.length<=maxLen)/\Uo fu
abbrev Ip(g:Int)(l:List (List Int))(k:Int)(ns:List Int)(q:Int)(s:Sta)(fu:Int):Value:=Value.bool true
attribute [local go_sem] Na.r Nb.r Ou.c ZE ZD rM rL rJ rI GM GL cSl MX MW jy Ae Ad jz ouC pgR pqR A31 A32 stR Tr mP YR aQ Fo W3 YL YN P6 W2 aS Yb Ye QZ Lr It N5 Oy Oz MZ N4 RJ JZ P9 YO y8
theorem fK:Mg Tryz.prog 3 (ahS ((cInt .u8).H) (ahS (cBl.H) (ahS ((cInt .i64).H) (ahS (cSl rI6) (ahS ((cInt .u8).H) (ahS (cSta.H) (ahS ((cInt .i64).H) ah0))))))) (λp:(Int×(List (List Int)×(Int×(List Int×(Int×(Sta×(Int×Unit)))))))=>cV p.1 p.2.1 p.2.2.1 p.2.2.2.1 p.2.2.2.2.1 p.2.2.2.2.2.1 p.2.2.2.2.2.2.1) (λp:(Int×(List (List Int)×(Int×(List Int×(Int×(Sta×(Int×Unit)))))))=>ofV (Ip p.1 p.2.1 p.2.2.1 p.2.2.2.1 p.2.2.2.2.1 p.2.2.2.2.2.1 p.2.2.2.2.2.2.1)):=by
 rintro ⟨g,l,k,ns,q,s,fu,_u⟩ w fz xs hc hfz hl hx
 refine Jr Tryz.func3 rfl w fz [W2,aQ,Yb,(mP (suN g l) (suM g l) (wgl g) (A6n (suN g l) (suM g l) (wgl g))),YL,Fo,aS,(Tr (suN g l) 1000 (jw (suN g l) 1000)),(YR (suN g l) 1000 (mf (suN g l) 1000)),W3,YN,Ye,P6] [] (ahS ((cInt .u8).H) (ahS (cBl.H) (ahS ((cInt .i64).H) (ahS (cSl rI6) (ahS ((cInt .u8).H) (ahS (cSta.H) (ahS ((cInt .i64).H) ah0))))))) (λp:(Int×(List (List Int)×(Int×(List Int×(Int×(Sta×(Int×Unit)))))))=>ofV (Ip p.1 p.2.1 p.2.2.1 p.2.2.2.1 p.2.2.2.2.1 p.2.2.2.2.2.1 p.2.2.2.2.2.2.1)) _ xs hfz hl hx (jN rfl) ?_
 clear hx hl hfz xs
 simp only[Tryz.f3]
 obtain⟨⟨g0,g1⟩,⟨l0,l1⟩,⟨k0,k1⟩,⟨n0,n1⟩,⟨q0,q1⟩,⟨s0,s1,s2⟩,⟨u0,u1⟩⟩:=hc
 dsimp only at g0 g1 l0 l1 k0 k1 n0 n1 q0 q1 s0 s1 s2 u0 u1
 obtain⟨sc,sa⟩:=s
 dsimp only at s0 s1 s2
 cases hL:ltF l 100 with
 |false=>
  simp only[seval,go_sem,iD,hL]
  exact ABD
 |true=>
 cases h6:decide (6<(ns.length:Int)) with
 |true=>
  simp only[seval,go_sem,iD,hL,h6]
  exact ABD
 |false=>
 cases hS:lsB ⟨sc,sa⟩ with
 |false=>
  simp only[seval,go_sem,iD,hL,h6,hS]
  exact ABD
 |true=>
 obtain⟨lk1,lk2⟩:=A08 (by decide) hL l1
 have hu:=A4e g l
 have hU:mN (suN g l) (suM g l) (wgl g) g l:=⟨⟨g0,by show l.length<=1000000;omega,lk2⟩,hu⟩
 have hG:=pv (m:=suM g l) (g:=g) (l:=l)
 have hp4:=iU k (n:=4) (by decide) (by decide)
 have hp5:=iU fu (n:=400) (by decide) (by decide)
 obtain⟨pk,hpk⟩:∃pk,plG k 4=pk:=⟨_,rfl⟩
 obtain⟨pf,hpf⟩:∃pf,plG fu 400=pf:=⟨_,rfl⟩
 rw[hpk]at hp4
 rw[hpf]at hp5
 have w0:IntKind.i64.wrap (pf-1)=pf-1:=wrap_i64 (by omega) (by omega)
 have h6':¬(6:Int)<(ns.length:Int):=of_decide_eq_false h6
 have hl5:sc.length<=5/\sa.length<=5:=by
  unfold lsB at hS
  simp only[Bool.and_eq_true,Bool.not_eq_true',decide_eq_false_iff_not]at hS
  omega
 have hRR:=λ(s:Sta) (va:List Va) (fuel:Int) hv h1 h2 hf=>A6q (s:=s) (va:=va) (fuel:=fuel) (k:=1000) hu hv h1 h2 hf (by decide)
 have hag:=λf=>sZ (m:=suM g l) (g:=g) (l:=l) (f:=f) (ns:=ns) (q:=q) (λx hx=>((hRR ⟨[],[]⟩ [] 0 (zero_le _) (zero_le _) (zero_le _) (by decide)).p.f x hx).1.1)
 obtain⟨P,hPe⟩:∃P,sPg (suM g l) (wgl g) g l=P:=⟨_,rfl⟩
 rw[hPe]at hG hRR
 simp only[hPe]at hag
 obtain⟨v,hv⟩:∃v,agF P (nmS pk) ns q=v:=⟨_,rfl⟩
 have hvl:v.length<=5000:=by rw[<- hv];exact hag _
 have hR:=hRR ⟨sc,sa⟩ v (pf-1) hvl (by show sc.length<=_;omega) (by show sa.length<=_;omega) (by omega)
 have hA:aR P (nmS pk) ns q:=⟨hR.c,by omega,hR.p.l,λx hx=>(hR.p.f x hx).1.1,q0,q1⟩
 have hln:=sd (f:=nmS pk) hR (by omega)
 obtain⟨m,hm⟩:∃m,clF 1000 P (nmS pk) v ⟨sc,sa⟩ (pf-1)=m:=⟨_,rfl⟩
 rw[hm]at hln
 have hB:YM P:=⟨hR.c,hR.a,λx hx=>(hR.l x hx).2⟩
 have hRs:Yd P ⟨[],[]⟩:=⟨hR.c,hR.a,hR.l,zero_le _,zero_le _⟩
 have hBl:∀x∈blA P.g.a,x.l.length<=1000000000:=λx hx=>by
  obtain⟨y,hy,rfl⟩:=List.mem_map.1 hx
  have:=(hR.l y hy).2
  show (List.replicate y.n.toNat (0:Int)).length<=_
  rw[List.length_replicate];omega
 have hH:Yc ⟨blC P.g.c,blA P.g.a⟩ ⟨blC P.g.c,blA P.g.a⟩:=⟨rfl,by show (blC _).length<=_;unfold blC;rw[length_map];exact hR.c,by show (blA _).length<=_;unfold blA;rw[length_map];exact hR.a,hBl⟩
 simp only[seval,go_sem,iD,hL,h6,hS,hpk,hpf,w0,hPe,Dz,hv,hm,y7,A30]
 refine⟨l0,hU,⟨(by show (1:Int)<=4;decide),(by show (4:Int)<=1000000;decide)⟩,hp4.1,hA,⟨(by show (1:Int)<=400;decide),(by show (400:Int)<=1000000;decide)⟩,hR,⟨hR,hG⟩,⟨rfl,hln⟩,hB,hRs,hH,Bn (by kernel_rfl),?_⟩
 refine A1 [] ?_;simp only[seval,go_sem,bne,Ip]
end
open Go Go.Sy Go.RowKit Go.ChangeShapes Go.WideShapes Go.ChangeAt
section
variable {H:Type}{enc:TypeId×Value->H}{W:World}
variable {base:Nat}{v:Value}{d:DataW H}{p:List MemPlace}
end
end Go.Proofs.YtapedeoheilnnaaGreat
