/- The blank state, walked. No conditions but those in each statement. -/
import Derived.Test.YtapedeoheilnnaaGreatRmg
set_option linter.all false
set_option maxRecDepth 20000
set_option maxHeartbeats 16000000
open List (length_map)
namespace Go.Proofs.YtapedeoheilnnaaGreat
open Go Go.Sy Go.RowKit
theorem gD{P:Prop}(h:P:=by
 intro r h c hc
 simp only[List.mem_singleton]at h
 subst h
 simp only[List.mem_cons,List.not_mem_nil,or_false]at hc
 rcases hc with rfl|rfl<;>rfl):P:=h
variable{B:Type}
theorem A4Q(v:SV)(a b:Pg)(h:leV v (.agg (pgR a)))(h':leV v (.agg (pgR b))):a=b:=by
 cases v with
 |one c=>exact h.elim
 |tup l=>exact h.elim
 |agg l=>
 obtain⟨⟨c,a⟩,fs⟩:=a
 obtain⟨⟨c',a'⟩,fs'⟩:=b
 match l,h,h' with
 |[c0,c1,c2],⟨h0,h1,h2,_⟩,⟨g0,g1,g2,_⟩=>
  have k0:=Aj QE (GH h0 g0)
  have k1:=Aj QF (GH h1 g1)
  have k2:=Aj WO (GH h2 g2)
  simp only at k0 k1 k2
  subst k0;subst k1;subst k2;rfl
noncomputable def cPg:Cod Pg:=Hl (λp=>.agg (pgR p)) A4Q (λp=>rfl)
theorem GL(p:Pg):cPg.e p= .agg (pgR p):=rfl
theorem GM(c:List (List UInt8))(a:List Gy)(fs:List Fn):cPg.d (.agg [.d (.sl Fq (c.map cSd)),.d (.sl GP (a.map Gy.r)),.d (.sl zFn (fs.map Fn.r))])=some ⟨⟨c,a⟩,fs⟩:=E4 (e:=λp:Pg=>.agg (pgR p)) (a:=⟨⟨c,a⟩,fs⟩) (F4 _)
open Classical in
noncomputable def clJ{B:Type}(ac:ArgC B)(l:List SV):Option B->Option (B×List Nat)
 |some b=>if ac.e b=l then some (b,[]) else none
 |none=>none
open Classical in
theorem MU(ac:ArgC B)(l:List SV)(b:B):clJ ac l (some b)=if ac.e b=l then some (b,[]) else none:=rfl
theorem zo{ac:ArgC B}{l:List SV}{o:Option B}{b:B}{ks:List Nat}(h:clJ ac l o=some (b,ks)):ks=[]/\ac.e b=l:=by
 cases o with
 |none=>cases h
 |some b'=>
 rw[MU]at h
 split at h
 .rename_i he
  simp only[jS,jP]at h
  obtain⟨rfl,rfl⟩:=h
  exact⟨rfl,he⟩
 cases h
noncomputable def Uj{B:Type}(ac:ArgC B)(nt:∀b,∀v∈ac.e b,v.tupB=false):ArgL B where
 d _ l:=clJ ac l (ac.d l)
 args b:=ac.e b
 mem _:=[]
 h H l a ks h:=by
  obtain⟨rfl,he⟩:=zo h
  refine⟨?_,rfl,λi k hi=>by simp at hi⟩
  rw[DR (l:=ac.e a) λv hv=>Uc (ac.n a v hv),he]
 n a m hm:=by cases hm
 an a v hv:=by
  have:=ac.n a v hv
  cases v with
  |one c=>exact .inl this
  |agg l=>
   intro c hc
   exact .inl (List.eq_nil_iff_forall_not_mem.2 λk hk=>by
    have h2:k∈(SV.agg l).names:=List.mem_flatMap.2 ⟨c,hc,hk⟩
    rw[this]at h2;cases h2)
  |tup l=>cases nt a _ hv
 l H H' v a ks h _:=h
theorem OI(ac:ArgC B)(nt)(H:Hp)(l:List SV):(Uj ac nt).d H l=clJ ac l (ac.d l):=rfl
theorem LL(ac:ArgC B)(nt)(b:B):(Uj ac nt).args b=ac.e b:=rfl
theorem LM(ac:ArgC B)(nt)(b:B):(Uj ac nt).mem b=[]:=rfl
def blC(l:List (List UInt8)):List Nb:=l.map λs=>⟨s,0⟩
theorem dl:blC []=[]:=rfl
def blA(l:List Gy):List Na:=l.map λx=>⟨x.s,List.replicate x.n.toNat 0⟩
theorem dm:blA []=[]:=rfl
theorem Ez(l:List Nb):List.flatMap (λr=>List.flatMap C.names r) (l.map Nb.c)=[]:=List.flatMap_eq_nil_iff.2 λp hp=>by
 exact eC
theorem G9(l:List Na):List.flatMap (λr=>List.flatMap C.names r) (l.map Na.c)=[]:=List.flatMap_eq_nil_iff.2 λp hp=>by
 exact eC
theorem E0(k t:Nat)(l:List Nb):(l.map Nb.c).map (λr=>r.map (mvC k t))=l.map Nb.c:=HU Nb.c (λ_=>rfl) l
theorem FF(k t:Nat)(l:List Na):(l.map Na.c).map (λr=>r.map (mvC k t))=l.map Na.c:=HU Na.c (λ_=>rfl) l
theorem jp(n:Nat):(List.replicate n [C.v (.int .i64 0)]).all (λr=>r.all λc=>c.names.isEmpty)=true:=by
 rw[List.all_eq_true]
 intro r hr
 rw[List.eq_of_mem_replicate hr];rfl
theorem Vx(n:Nat):(List.replicate n (0:Int)).map cI=List.replicate n [C.v (.int .i64 0)]:=by simp[cI]
theorem A4R:∀b,∀v∈ArgC.e (acS cPg ac0) b,v.tupB=false:=by
 rintro ⟨p,_⟩ v hv
 simp only[FV,FU,List.mem_cons,List.not_mem_nil,or_false]at hv
 subst hv;rfl
noncomputable abbrev OJ:ArgL (Pg×Unit):=Uj (acS cPg ac0) A4R
abbrev Vy(p:Pg×Unit):Prop:=p.1.g.c.length<=1000000/\p.1.g.a.length<=1000000/\∀x∈p.1.g.a,x.n<=1048576
abbrev XW(_:Pg×Unit):SV:=.agg [.s 0,.s 1]
abbrev M_Bl(p:Pg×Unit):List (Option ML):=[some (.vec zNb ((blC p.1.g.c).map Nb.c)),some (.vec zNa ((blA p.1.g.a).map Na.c))]
attribute [local go_sem] Fa.mem Fa.memO Fa.pan ML.ch ML.ren H4 Gz H5 Di GM GL chL IJ F6 F5 Gv fcN frC IK Gx lmH lmO Tj P4 Ti Tm Tk Tl IL Hm DH Cj Ck nmX pgR Dh D3 D4 ED E9 E5 EE rnC Ci DS Cu stR CU E8 vrQ IM
theorem ub:Dj Tryz.prog 17 OJ.args OJ.mem Vy (λ_=>false) XW M_Bl (λ_=>mlO []):=by
 rintro ⟨⟨⟨pc,pa⟩,pf⟩,_u⟩ w M I lab fz xs ⟨hc1,hc2,hc3⟩ hA hl hx
 dsimp only at hc1 hc2 hc3
 refine Bz Tryz.func17 rfl [] w M I lab fz false [] (M_Bl (⟨⟨pc,pa⟩,pf⟩,())) [] [(12,[.mv 1000 0,.mv 1001 1])] (OJ.args (⟨⟨pc,pa⟩,pf⟩,())) (XW (⟨⟨pc,pa⟩,pf⟩,())) xs hA hl hx ?_ (jN rfl) (Nat.zero_le _) rfl (by intro q hq;cases hq) ?_
 .intro v hv k hk
  rw[(acS cPg ac0).n _ v hv]at hk;cases hk
 clear hx hl hA xs
 simp only[Tryz.f17]
 simp only[seval,go_sem,xt,↓A0,LL,LM]
 refine AC (Y:=Nat) (λi=>i<=pc.length)
  (λi=>⟨[(1,true,.one (.p 1 0 0)),(2,true,.one (.p 2 0 0)),(3,true,.one (.p 3 0 0)),(10,true,.one (.d (.sl Fq (pc.map cSd)))),(11,true,.one (.v (.int .i64 (pc.length:Int)))),(12,true,.one (.v (.int .i64 (i:Int))))],
   [(1,.vec 0 [.v (.bool false),.v (.bool false),.v (.bool false)] [pgR ⟨⟨pc,pa⟩,pf⟩]),(2,.vec 0 (tgN 27 2) [[.v (.slice none 0 0),.v (.slice none 0 0)]]),(3,.vec 0 (tgN 27 2) [[.s 1000,.v (.slice none 0 0)]]),(1000,.vec 0 zNb ((blC (pc.take i)).map Nb.c))]⟩)
  (λi=>pc.length-i) 0 (Nat.zero_le _) ?_ ?_
 .refine A2 [.nilr 3 0 0 1000 zNb] ?_;simp only[seval,go_sem,xt,↓A0,zNb,dl]
 rintro i hi
 refine AP [] [(12,[.mv 1000 0,.mv 1001 1])] _ _ _ ?_
 have w1:IntKind.i64.wrap ((i:Int)+1)=((i+1:Nat):Int):=by rw[wrap_i64 (by omega) (by omega)];rfl
 cases hx:pc[i]? with
 |none=>
  have h2:=List.getElem?_eq_none_iff.1 hx
  have h1:=Ai h2
  simp only[seval,go_sem,xt,↓A0,h1]
  rw[List.take_of_length_le h2]
  refine AC (Y:=Nat) (λi=>i<=pa.length)
   (λi=>⟨[(2,true,.one (.p 2 0 0)),(3,true,.one (.p 3 0 0)),(26,true,.one (.d (.sl GP (pa.map Gy.r)))),(27,true,.one (.v (.int .i64 (pa.length:Int)))),(28,true,.one (.v (.int .i64 (i:Int))))],
    [(2,.vec 0 (tgN 27 2) [[.v (.slice none 0 0),.v (.slice none 0 0)]]),(3,.vec 0 (tgN 27 2) [[.s 1000,.s 1001]]),(1000,.vec 0 zNb ((blC pc).map Nb.c)),(1001,.vec 0 zNa ((blA (pa.take i)).map Na.c))]⟩)
   (λi=>pa.length-i) 0 (Nat.zero_le _) ?_ ?_
  .refine A2 [.nilr 3 0 1 1001 zNa] ?_;simp only[seval,go_sem,xt,↓A0,zNa,dm,Ez]
  rintro j hj
  refine AP [] [(12,[.mv 1000 0,.mv 1001 1])] _ _ _ ?_
  have w2:IntKind.i64.wrap ((j:Int)+1)=((j+1:Nat):Int):=by rw[wrap_i64 (by omega) (by omega)];rfl
  cases hy:pa[j]? with
  |none=>
   have g2:=List.getElem?_eq_none_iff.1 hy
   have g1:=Ai g2
   simp only[seval,go_sem,xt,↓A0,g1,E0,FF]
   rw[List.take_of_length_le g2]
   refine A1 [] ?_;simp only[seval,go_sem,bne,XW,M_Bl,A3,xt,↓A0,Ez,G9,E0,FF]
  |some y=>
  obtain⟨ys,yn⟩:=y
  have glt:=(List.getElem?_eq_some_iff.1 hy).1
  have g1:=Ah glt
  have gs:(pa.map Gy.r).getD j GP=Gy.r ⟨ys,yn⟩:=by simp[List.getD,hy]
  simp only[seval,go_sem,xt,↓A0,g1,w2,gs,Gy.r]
  have hy3:=hc3 ⟨ys,yn⟩ (List.mem_of_getElem? hy)
  dsimp only at hy3
  have hmx:mx 0 yn=((yn.toNat:Nat):Int):=by unfold mx;split<;>omega
  have hml:yn.toNat<=1048576:=by omega
  have hjl:(j:Int)<(pa.length:Int):=by omega
  have hbl:(blA (List.take j pa)).length=j:=by simp[blA];omega
  have hrs:BS [[C.v (.string (bs ys)),C.s 39]]:=by
   exact gD
  have ht:(blA (pa.take (j+1))).map Na.c=(blA (pa.take j)).map Na.c++[[.v (.string (bs ys)),.ov zI ((List.replicate yn.toNat (0:Int)).map cI)]]:=by
   rw[List.take_add_one,hy];simp[blA,Na.c]
  have hge:((blA (pa.take j)).map Na.c++[[C.v (.string (bs ys)),C.s 39]])[j]?=some [C.v (.string (bs ys)),C.s 39]:=by
   rw[List.getElem?_append_right (by rw[length_map,hbl];exact Nat.le_refl _),length_map,hbl,Nat.sub_self];rfl
  have hst:∀r:List C,((blA (pa.take j)).map Na.c++[[C.v (.string (bs ys)),C.s 39]]).set j r=(blA (pa.take j)).map Na.c++[r]:=by
   intro r
   rw[List.set_append_right _ _ (by rw[length_map,hbl];exact Nat.le_refl _),length_map,hbl,Nat.sub_self];rfl
  have htn:(((yn.toNat:Nat):Int)).toNat=yn.toNat:=Int.toNat_natCast _
  refine⟨⟨hjl,rfl⟩,⟨(by rw[hmx];omega),(by rw[hmx];omega),(by rw[hmx];omega)⟩,⟨⟨rfl,.inl rfl⟩,(λq h=>(by cases h;rfl)),hrs,(by decide),(by rw[hbl];omega),(by rw[hbl];omega)⟩,Bn (by kernel_rfl),j+1,glt,(by omega),BU (t:=⟨[(2,true,.one (.p 2 0 0)),(3,true,.one (.p 3 0 0)),(26,true,.one (.d (.sl GP (pa.map Gy.r)))),(27,true,.one (.v (.int .i64 (pa.length:Int)))),(28,true,.one (.v (.int .i64 ((j+1:Nat):Int))))],
   [(2,.vec 0 (tgN 27 2) [[.v (.slice none 0 0),.v (.slice none 0 0)]]),(3,.vec 0 (tgN 27 2) [[.s 1000,.s 42]]),(1000,.vec 0 zNb ((blC pc).map Nb.c)),(42,.vec 0 zNa ((blA (pa.take (j+1))).map Na.c))]⟩) ?_ ?_⟩
  .refine A2 [.fold 42 j 1] ?_;simp only[seval,go_sem,xt,↓A0,hge,hst,hmx,htn,ht,Ez,G9,E0,jp,Vx,zI,List.flatMap_append]
  refine A2 [.mv 42 1001] ?_;simp only[seval,go_sem,xt,↓A0,Ez,G9,FF,E0]
 |some s=>
 have hlt:=(List.getElem?_eq_some_iff.1 hx).1
 have h1:=Ah hlt
 have hs:(pc.map cSd).getD i Fq=cSd s:=by simp[List.getD,hx]
 simp only[seval,go_sem,xt,↓A0,h1,w1,hs,cSd]
 have hil:(i:Int)<(pc.length:Int):=by omega
 have hbl:(blC (List.take i pc)).length=i:=by simp[blC];omega
 have ht:(blC (pc.take (i+1))).map Nb.c=(blC (pc.take i)).map Nb.c++[[.v (.string (bs s)),.v (.int .i64 0)]]:=by
  rw[List.take_add_one,hx];simp[blC,Nb.c]
 have hrs:BS [[C.v (.string (bs s)),C.v (.int .i64 0)]]:=by
  exact gD
 refine⟨⟨hil,rfl⟩,⟨⟨rfl,.inl rfl⟩,(λq h=>(by cases h;rfl)),hrs,(by decide),(by rw[hbl];omega),(by rw[hbl];omega)⟩,i+1,hlt,(by omega),BU (t:=⟨[(1,true,.one (.p 1 0 0)),(2,true,.one (.p 2 0 0)),(3,true,.one (.p 3 0 0)),(10,true,.one (.d (.sl Fq (pc.map cSd)))),(11,true,.one (.v (.int .i64 (pc.length:Int)))),(12,true,.one (.v (.int .i64 ((i+1:Nat):Int))))],
   [(1,.vec 0 [.v (.bool false),.v (.bool false),.v (.bool false)] [pgR ⟨⟨pc,pa⟩,pf⟩]),(2,.vec 0 (tgN 27 2) [[.v (.slice none 0 0),.v (.slice none 0 0)]]),(3,.vec 0 (tgN 27 2) [[.s 21,.v (.slice none 0 0)]]),(21,.vec 0 zNb ((blC (pc.take (i+1))).map Nb.c))]⟩) ?_ ?_⟩
 .refine A2 [] ?_;simp only[seval,go_sem,xt,↓A0,ht,Ez,List.map_append,List.flatMap_append]
 refine A2 [.mv 21 1000] ?_;simp only[seval,go_sem,xt,↓A0,Ez,E0]
end Go.Proofs.YtapedeoheilnnaaGreat
