/- The document's lines of statements. Conditions: each node has its parts, the numbers are of 64 bits, the text is shorter than 10^9 bytes. -/
import Derived.Test.YtbiepiggmagfcaaGreatDoorPr3
import Derived.Test.YtbiepiggmagfcaaGreatDoorPs6
set_option linter.unusedVariables false
set_option linter.unusedSimpArgs false
set_option maxRecDepth 20000
set_option maxHeartbeats 16000000
open List (length_append length_cons length_nil append_assoc nil_append append_nil cons_append length_map flatten_cons flatten_nil map_append)
namespace Go.Proofs.YtbiepiggmagfcaaGreatDoor
open Go Go.Sy Go.RowKit
def Ln.r (x:Ln):List D:=[dS x.t,dI x.n]
def Ln.c (x:Ln):List C:=[.v (.string (bs x.t)),.v (.int .i64 x.n)]
def zLn:List D:=[dS [],dI 0]
def zLc:List C:=[.v (.string (bs [])),.v (.int .i64 0)]
theorem XH:zLn.length=2:=rfl
theorem A2s:zT zLc=none:=rfl
theorem xN:zLc.length=2:=rfl
theorem xO:D2 zLc=some zLn:=rfl
theorem xP (l:List Ln):(l.map Ln.r).map (fun r=>r.map oD)=l.map Ln.c:=by rw[List.map_map];rfl
attribute [go_sem] A2s xN xO xP
theorem B7:RowsD Ln.c Ln.r 2:=by
 refine⟨fun a c hc=>?_,fun a c hc=>?_,fun a=>rfl,fun a=>rfl⟩
 ·simp only[Ln.c,List.mem_cons,List.not_mem_nil,or_false]at hc;rcases hc with rfl|rfl<;>rfl
 ·simp only[Ln.c,List.mem_cons,List.not_mem_nil,or_false]at hc;rcases hc with rfl|rfl<;>rfl
def lnR (l:List Ln):SV:=.one (.d (.sl zLn (l.map Ln.r)))
theorem A2t (d:Nat) (t:List UInt8) (n:Int):Ln.c (lnO d t n)=[.v (.string (bs (tbs d++t))),.v (.int .i64 n)]:=rfl
theorem xQ (l m:List Ln):(l++m).map Ln.c=l.map Ln.c++m.map Ln.c:=map_append
theorem xR (l:List Sm):decide ((0:Int)<((l.length:Nat):Int)) = !l.isEmpty:=by
 cases l with
 |nil=>rfl
 |cons a l=>rw[fr];rfl
theorem kd3 (k:Int):k=10∨k=11∨((k==10)=false∧(k==11)=false):=by simp only[beq_eq_false_iff_ne];omega
abbrev VA (n:Nat) (m:Nat) (l:List Sm) (d:Int):Prop:=0≤d∧d+m≤1000000∧Cp n m l∧ER m l∧(lnX (lnB d.toNat l)).length≤1000000000
abbrev Jw (n:Nat) (m:Nat) (l:List Sm) (d:Int):SV:=lnR (lnB d.toNat l)
noncomputable abbrev PV:ArgC ((List Sm)×(Int)×Unit):=(acS (cSs) (acS (cInt .i64) ac0))
abbrev MK (n:Nat) (m:Nat):Prop:=AP Tryz.prog 52 PV (fun p:(List Sm)×(Int)×Unit=>VA n m p.1 p.2.1) (fun p:(List Sm)×(Int)×Unit=>Jw n m p.1 p.2.1)
theorem fh (n:Nat) (m:Nat):∀p:(List Sm)×(Int)×Unit,((fun p:(List Sm)×(Int)×Unit=>Jw n m p.1 p.2.1) p).names=[]:=by intro p;rfl
noncomputable def DT {X:Ctx} {w0:World} (n:Nat) (m:Nat) (h:MK n m):Sy.Spec Tryz.prog X w0:=Am 52 Tryz.call52 PV (fun p:(List Sm)×(Int)×Unit=>VA n m p.1 p.2.1) (fun p:(List Sm)×(Int)×Unit=>Jw n m p.1 p.2.1) (fh n m) h
attribute [local go_sem] Sm.ar Sm.c Sm.cd Sm.e Sm.el Sm.f Sm.k Sm.no Sm.th Sm.x Sm.y QY QX KW KV xQ A2t lnR Zk XH
theorem fi (n:Nat) (m:Nat) (hL:MK n m):MK n (m+1):=by
 rintro ⟨l,d,_u⟩ w fz xs hc hfz hl hx
 refine A9 Tryz.func52 rfl w fz [J6,(J7 n (Zf n)),(DT n m hL)] [] PV (fun p:(List Sm)×(Int)×Unit=>Jw n (m+1) p.1 p.2.1) _ xs hfz hl hx (jN rfl) ?_
 clear hx hl hfz xs
 simp only[Tryz.f52]
 obtain⟨h0,h1,⟨hl,hk⟩,hr,hlen⟩:=hc
 dsimp only at h0 h1 hl hk hr hlen
 obtain⟨j,rfl⟩:∃j:Nat,d=(j:Int):=⟨d.toNat,by omega⟩
 rw[Int.toNat_natCast]at hlen
 have w1:IntKind.i64.wrap ((j:Int)+1)=((j+1:Nat):Int):=by rw[wrap_i64 (by omega) (by omega)];rfl
 have q0:(0:Int)≤((j+1:Nat):Int):=by omega
 have q1:((j+1:Nat):Int)+m≤1000000:=by omega
 have q2:(j:Int)≤1000000:=by omega
 simp only[↓eB,seval,go_sem]
 refine AH (Y:=Nat) (fun z=>z≤l.length)
  (fun z=>⟨[(0,true,.one (.d (.sl zSm (l.map Sm.r)))),(1,true,.one (.v (.int .i64 (j:Int)))),(5,true,.one (.s 1000)),(6,true,.one (.v (.int .i64 (z:Int))))],[(1000,.vec 0 zLc ((lnB j (l.take z)).map Ln.c))]⟩)
  (fun z=>l.length-z) 0 (Nat.zero_le _) ?_ ?_
 ·refine A4 [.nil 5 1000 zLc] ?_;simp only[↓eB,seval,go_sem,NW]
 ·rintro i hi
  refine Ab [J6,J7 n (Zf n),DT n m hL] [] _ _ _ ?_
  cases hx:l[i]? with
  |none=>
   have h2:=List.getElem?_eq_none_iff.1 hx
   have h3:=Ao h2
   have h4:l.take i=l:=List.take_of_length_le h2
   simp only[↓eB,seval,go_sem,h3,h4]
   try simp only[A1,A2]
   repeat' first|exact ck|with_reducible apply And.intro|intro _
   all_goals first|exact trivial|(rename_i h;first|exact oI h|exact nah h)|(rename_i _ h _ g;exact sL h g)|decide|omega|(refine A0 [.fz 1000] ?_;simp only[↓eB,seval,go_sem,bne,Jw,B7.ds,B7.fz])
  |some s=>
   have hlt:i<l.length:=(List.getElem?_eq_some_iff.1 hx).1
   have h2:=Ah hlt
   have h3:=AX hlt
   have h4:=AM (n:=l.length) (Nat.le_of_lt hlt) (by omega)
   obtain⟨g1,g2,g3⟩:=hk s (List.mem_of_getElem? hx)
   obtain⟨r1,r2,r3⟩:=hr s (List.mem_of_getElem? hx)
   have hb:=Zl hx j
   have hc1:=Lf (lnB j (l.take i))
   have hsn:lnB j (l.take (i+1))=lnB j (l.take i)++lnS j s:=by rw[List.take_add_one,hx,← Li];rfl
   have hSe:=BJ j s
   rw[hSe]at hsn hb
   obtain⟨k,x,y,e,f,c,ar,th,el,no⟩:=s
   have hd:=fq hx
   dsimp only[Sm.k,Sm.th,Sm.el,Sm.no]at hsn hb g2 g3 r2 r3
   have k0:=g1.k0
   have k1:=g1.k1
   dsimp only[Sm.k]at k0 k1
   have hS:PrS n (.mk k x y e f c ar th el no):=g1
   rcases kd3 k with rfl|rfl|⟨e10,e11⟩
   ·simp only[Int.reduceBEq,if_true,if_false,jB,EA,Bb,length_append]at hb
    simp only[Int.reduceBEq,if_true,if_false,jB]at hsn
    have b1:=Lf (lnB (j+1) th)
    have b2:(lnX (lnB (j+1) th)).length≤1000000000:=by omega
    have b3:(hdL (.mk 10 x y e f c ar th el no)).flatten.length≤1000000000:=by
     have:(lnO j (hdL (.mk 10 x y e f c ar th el no)).flatten no).t=tbs j++(hdL (.mk 10 x y e f c ar th el no)).flatten:=rfl
     rw[this,length_append]at hb;omega
    have gl:=xR el
    cases hE:el.isEmpty with
    |true=>
     rw[hE]at gl
     simp only[hE,if_true,nil_append]at hsn
     simp only[↓eB,seval,go_sem,J6,J7,DT,w1,h2,h3,h4,hd,Int.reduceBEq,Int.reduceBNe,bne,gl]
     try simp only[A1,A2]
     repeat' first|exact ck|with_reducible apply And.intro|intro _
     all_goals try first|exact hlt|exact rfl|exact hS|exact r1|exact b3|exact h0|exact q0|exact q1|exact q2|exact g2|exact g3|exact r2|exact r3|exact b2|exact b5|(rename_i _ h _ g;exact B7.stor _ h _ g)|(simp only[length_append,length_map,length_cons,length_nil,NU]at *;omega)|(rename_i h;first|exact oI h|exact nah h)|(rename_i _ h _ g;exact sL h g)|decide|omega
     refine⟨i+1,hlt,by omega,BP (t:=⟨[(0,true,.one (.d (.sl zSm (l.map Sm.r)))),(1,true,.one (.v (.int .i64 (j:Int)))),(5,true,.one (.s 73)),(6,true,.one (.v (.int .i64 ((i+1:Nat):Int))))],[(73,.vec 0 zLc ((lnB j (l.take (i+1))).map Ln.c))]⟩) (A4 [] ?_) (A4 [.mv 73 1000] ?_)⟩
     ·simp only[↓eB,seval,go_sem,B7.fn,map_append,List.flatMap_append,hsn,append_assoc]
     ·simp only[↓eB,seval,go_sem,B7.fn,map_append,List.flatMap_append,B7.mv]
    |false=>
     rw[hE]at gl
     simp only[hE,jB,if_false,EA,Bb,length_append]at hsn hb
     have b4:=Lf (lnB (j+1) el)
     have b5:(lnX (lnB (j+1) el)).length≤1000000000:=by omega
     simp only[↓eB,seval,go_sem,J6,J7,DT,w1,h2,h3,h4,hd,Int.reduceBEq,Int.reduceBNe,bne,gl]
     try simp only[A1,A2]
     repeat' first|exact ck|with_reducible apply And.intro|intro _
     all_goals try first|exact hlt|exact rfl|exact hS|exact r1|exact b3|exact h0|exact q0|exact q1|exact q2|exact g2|exact g3|exact r2|exact r3|exact b2|exact b5|(rename_i _ h _ g;exact B7.stor _ h _ g)|(simp only[length_append,length_map,length_cons,length_nil,NU]at *;omega)|(rename_i h;first|exact oI h|exact nah h)|(rename_i _ h _ g;exact sL h g)|decide|omega
     refine⟨i+1,hlt,by omega,BP (t:=⟨[(0,true,.one (.d (.sl zSm (l.map Sm.r)))),(1,true,.one (.v (.int .i64 (j:Int)))),(5,true,.one (.s 73)),(6,true,.one (.v (.int .i64 ((i+1:Nat):Int))))],[(73,.vec 0 zLc ((lnB j (l.take (i+1))).map Ln.c))]⟩) (A4 [] ?_) (A4 [.mv 73 1000] ?_)⟩
     ·simp only[↓eB,seval,go_sem,B7.fn,map_append,List.flatMap_append,hsn,append_assoc]
     ·simp only[↓eB,seval,go_sem,B7.fn,map_append,List.flatMap_append,B7.mv]
   ·simp only[Int.reduceBEq,if_true,if_false,jB,EA,Bb,length_append]at hb
    simp only[Int.reduceBEq,if_true,if_false,jB]at hsn
    have b1:=Lf (lnB (j+1) th)
    have b2:(lnX (lnB (j+1) th)).length≤1000000000:=by omega
    have b3:(hdL (.mk 11 x y e f c ar th el no)).flatten.length≤1000000000:=by
     have:(lnO j (hdL (.mk 11 x y e f c ar th el no)).flatten no).t=tbs j++(hdL (.mk 11 x y e f c ar th el no)).flatten:=rfl
     rw[this,length_append]at hb;omega
    simp only[↓eB,seval,go_sem,J6,J7,DT,w1,h2,h3,h4,hd,Int.reduceBEq,Int.reduceBNe,bne]
    try simp only[A1,A2]
    repeat' first|exact ck|with_reducible apply And.intro|intro _
    all_goals try first|exact hlt|exact rfl|exact hS|exact r1|exact b3|exact h0|exact q0|exact q1|exact q2|exact g2|exact g3|exact r2|exact r3|exact b2|exact b5|(rename_i _ h _ g;exact B7.stor _ h _ g)|(simp only[length_append,length_map,length_cons,length_nil,NU]at *;omega)|(rename_i h;first|exact oI h|exact nah h)|(rename_i _ h _ g;exact sL h g)|decide|omega
    refine⟨i+1,hlt,by omega,BP (t:=⟨[(0,true,.one (.d (.sl zSm (l.map Sm.r)))),(1,true,.one (.v (.int .i64 (j:Int)))),(5,true,.one (.s 73)),(6,true,.one (.v (.int .i64 ((i+1:Nat):Int))))],[(73,.vec 0 zLc ((lnB j (l.take (i+1))).map Ln.c))]⟩) (A4 [] ?_) (A4 [.mv 73 1000] ?_)⟩
    ·simp only[↓eB,seval,go_sem,B7.fn,map_append,List.flatMap_append,hsn,append_assoc]
    ·simp only[↓eB,seval,go_sem,B7.fn,map_append,List.flatMap_append,B7.mv]
   ·simp only[e10,e11,if_false,jB]at hsn hb
    have b3:(hdL (.mk k x y e f c ar th el no)).flatten.length≤1000000000:=by
     simp only[EA,Bb,length_append]at hb
     have:(lnO j (hdL (.mk k x y e f c ar th el no)).flatten no).t=tbs j++(hdL (.mk k x y e f c ar th el no)).flatten:=rfl
     rw[this,length_append]at hb;omega
    simp only[↓eB,seval,go_sem,J6,J7,DT,w1,h2,h3,h4,hd,e10,e11,bne]
    try simp only[A1,A2]
    repeat' first|exact ck|with_reducible apply And.intro|intro _
    all_goals try first|exact hlt|exact rfl|exact hS|exact r1|exact b3|exact h0|exact q0|exact q1|exact q2|exact g2|exact g3|exact r2|exact r3|exact b2|exact b5|(rename_i _ h _ g;exact B7.stor _ h _ g)|(simp only[length_append,length_map,length_cons,length_nil,NU]at *;omega)|(rename_i h;first|exact oI h|exact nah h)|(rename_i _ h _ g;exact sL h g)|decide|omega
    refine⟨i+1,hlt,by omega,BP (t:=⟨[(0,true,.one (.d (.sl zSm (l.map Sm.r)))),(1,true,.one (.v (.int .i64 (j:Int)))),(5,true,.one (.s 28)),(6,true,.one (.v (.int .i64 ((i+1:Nat):Int))))],[(28,.vec 0 zLc ((lnB j (l.take (i+1))).map Ln.c))]⟩) (A4 [] ?_) (A4 [.mv 28 1000] ?_)⟩
    ·simp only[↓eB,seval,go_sem,B7.fn,map_append,List.flatMap_append,hsn,append_assoc]
    ·simp only[↓eB,seval,go_sem,B7.fn,map_append,List.flatMap_append,B7.mv]
theorem y_rlines (n:Nat):∀m:Nat,MK n m
 |0=>by
  rintro ⟨l,d,_u⟩ w fz xs hc hfz hl hx
  exact hc.2.2.1.elim
 |m+1=>fi n m (y_rlines n m)
end Go.Proofs.YtbiepiggmagfcaaGreatDoor
namespace Go.Proofs.YtbiepiggmagfcaaGreatDoor
open Go Go.Sy Go.RowKit
theorem fj (l:List Vr) (i:Nat):(jnT (vpT l i)).length≤(jnT (l.map vrT)).length:=by
 unfold vpT;rw[List.map_take];exact V9 i
theorem qs {l:List Vr} {i:Nat} {x:Vr} (h:l[i]?=some x):jnT (vpT l (i+1))=jnT (vpT l i)++((if i=0 then [] else [44,32])++vrT x):=by
 rw[← nK h]
 cases i with
 |zero=>rw[Hw,nil_append,xM,DJ];rfl
 |succ i=>
  rw[Zd]
  ·rfl
  ·intro h0
   have:=Zp (l:=l) (i:=i+1) (by have:=(List.getElem?_eq_some_iff.1 h).1;omega)
   rw[h0]at this;cases this
def lcH (h:Ln) (l:List Vr):List Ln:=h::lcL l
theorem UJ (h:Ln) (l:List Vr):(lcH h l).length=l.length+1:=by simp[lcH,lcL]
def lnH (f:Fn):Ln:=⟨(fnH f).flatten,-1⟩
theorem Lh (f:Fn):lnF f=lnH f::(lcL f.ls++(lnB 1 f.body++[⟨[125],-1⟩])):=rfl
abbrev VB (n:Nat) (m:Nat) (f:Fn):Prop:=Cp n m f.body∧ER m f.body∧m≤1000∧f.ps.length≤5000∧f.ls.length≤5000∧(fnT f).length≤1000000000
abbrev Jx (n:Nat) (m:Nat) (f:Fn):SV:=lnR (lnF f)
noncomputable abbrev PW:ArgC ((Fn)×Unit):=(acS (cFn) ac0)
abbrev VC (n:Nat) (m:Nat):Prop:=AP Tryz.prog 19 PW (fun p:(Fn)×Unit=>VB n m p.1) (fun p:(Fn)×Unit=>Jx n m p.1)
theorem fk (n:Nat) (m:Nat):∀p:(Fn)×Unit,((fun p:(Fn)×Unit=>Jx n m p.1) p).names=[]:=by intro p;rfl
noncomputable def VD {X:Ctx} {w0:World} (n:Nat) (m:Nat) (h:VC n m):Sy.Spec Tryz.prog X w0:=Am 19 Tryz.call19 PW (fun p:(Fn)×Unit=>VB n m p.1) (fun p:(Fn)×Unit=>Jx n m p.1) (fk n m) h
attribute [local go_sem] Fn.c Ht Jc KW KV lnR Zn DT XH
theorem y_rLines (n:Nat) (m:Nat):VC n m:=by
 rintro ⟨f,_u⟩ w fz xs hc hfz hl hx
 refine A9 Tryz.func19 rfl w fz [(DT n m (y_rlines n m))] [] PW (fun p:(Fn)×Unit=>Jx n m p.1) _ xs hfz hl hx (jN rfl) ?_
 clear hx hl hfz xs
 simp only[Tryz.f19]
 obtain⟨hk,hr,hm,hp,hq,hlen⟩:=hc
 rw[NY]at hlen
 have hLF:=Lh f
 obtain⟨nm,ps,ls,bd⟩:=f
 dsimp only at hk hr hp hq hlen hLF
 have hl0:(BL 0 (fnH ⟨nm,ps,ls,bd⟩)).length+(lnX (lcL ls)).length+(lnX (lnB 1 bd)).length+2≤1000000000:=by
  simp only[length_append]at hlen
  have:=As 0 [[125]]
  simp only[flatten_cons,flatten_nil,jL3]at this
  omega
 have hl2:(lnX (lnB (1:Int).toNat bd)).length≤1000000000:=by show (lnX (lnB 1 bd)).length≤_;omega
 have hl3:=Lf (lnB 1 bd)
 rw[As]at hl0
 have hT:(([102,110,32]++nm)++[40]).length+(jnT (ps.map vrT)).length+3≤1000000000:=by
  simp only[fnH,flatten_cons,flatten_nil,jL3]at hl0 ⊢
  omega
 have hU:nm.length+4≤1000000000:=by
  simp only[jL3]at hT;omega
 simp only[↓eB,seval,go_sem]
 try simp only[A1,A2]
 repeat' (first|exact ck|with_reducible apply And.intro)
 all_goals try first|exact hU|(simp only[jL3]at *;omega)|decide|omega
 refine AH (Y:=Nat) (fun z=>z≤ps.length) (fun z=>⟨[(1,true,.one (.p 1 0 0)),(3,true,.one (.v (.string (bs ((([102,110,32]++nm)++[40])++jnT (vpT ps z)))))),(4,true,.one (.v (.int .i64 (z:Int))))],[(1,.vec 0 (EW 4) [(Fn.mk nm ps ls bd).c])]⟩)
  (fun z=>ps.length-z) 0 (Nat.zero_le _) ?_ ?_
 ·refine A4 [] ?_;simp only[↓eB,seval,go_sem,Hw,DJ,append_assoc]
 ·rintro i hi
  refine Ab [DT n m (y_rlines n m)] [] _ _ _ ?_
  have hj:((([102,110,32]++nm)++[40])++jnT (vpT ps i)).length+3≤1000000000:=by
   have:=fj ps i
   rw[length_append]
   omega
  cases hx:ps[i]? with
  |none=>
   have h2:=List.getElem?_eq_none_iff.1 hx
   have h1:=Ao h2
   have h3:=Zo h2
   rw[h3]at hj
   simp only[↓eB,seval,go_sem,h1,h3]
   try simp only[A1,A2]
   repeat' (first|exact ck|with_reducible apply And.intro)
   all_goals try first|(simp only[jL3]at *;omega)|decide|omega
   generalize hHL:lnH ⟨nm,ps,ls,bd⟩=HL at hLF
   have hHc:Ln.c HL=[.v (.string (bs ((([102,110,32]++nm)++[40])++jnT (ps.map vrT)++[41,32,123]))),.v (.int .i64 (-1))]:=by
    rw[← hHL];simp[lnH,fnH,Ln.c]
   refine AH (Y:=Nat) (fun z=>z≤ls.length) (fun z=>⟨[(1,true,.one (.p 1 0 0)),(5,true,.one (.s 1000)),(6,true,.one (.v (.int .i64 (z:Int))))],[(1,.vec 0 (EW 4) [(Fn.mk nm ps ls bd).c]),(1000,.vec 0 zLc ((lcH HL (ls.take z)).map Ln.c))]⟩)
    (fun z=>ls.length-z) 0 (Nat.zero_le _) ?_ ?_
   ·refine A4 [.mv 42 1000] ?_;simp only[↓eB,seval,go_sem,lcH,lcL,hHc,append_assoc]
   ·rintro i hi
    refine Ab [DT n m (y_rlines n m)] [] _ _ _ ?_
    cases hx:ls[i]? with
    |none=>
     have h2:=List.getElem?_eq_none_iff.1 hx
     have h1:=Ao h2
     have h3:ls.take i=ls:=List.take_of_length_le h2
     have hz:(lcH HL ls).map Ln.c++((lnB 1 bd).map Ln.c++[[.v (.string (bs [125])),.v (.int .i64 (-1))]])=(lnF ⟨nm,ps,ls,bd⟩).map Ln.c:=by
      rw[hLF];simp[Ln.c,lcH]
     have q2:(1:Int)+(m:Int)≤1000000:=by omega
     simp only[↓eB,seval,go_sem,h1,h3]
     try simp only[A1,A2]
     repeat' (first|exact ck|with_reducible apply And.intro)
     all_goals try first|(show (0:Int)≤1;decide)|exact q2|exact hk|exact hr|exact hl2|exact rfl|(intro _ h _ g;exact B7.stor _ h _ g)|(simp only[length_append,length_map,length_cons,length_nil,UJ]at *;omega)|decide|omega
     try simp only[A1,A2]
     repeat' first|exact ck|with_reducible apply And.intro|intro _
     all_goals first|(rename_i _ h _ g;exact B7.stor _ h _ g)|(rename_i h;first|exact oI h|exact nah h)|(rename_i _ h _ g;exact sL h g)|decide|omega|(refine A0 [.fz 77] ?_;simp only[↓eB,seval,go_sem,bne,Jx,append_assoc,hz,B7.ds,B7.fz])
    |some v=>
     have hlt:i<ls.length:=(List.getElem?_eq_some_iff.1 hx).1
     have h1:=Ah hlt
     have h2:=AX hlt
     have h2':=AM (n:=ls.length) (Nat.le_of_lt hlt) (by omega)
     obtain⟨vs,vp⟩:=v
     have h3:=So hx
     cases vp with
     |true=>
      have g5:(lcH HL (ls.take (i+1))).map Ln.c=(lcH HL (ls.take i)).map Ln.c++[[.v (.string (bs (([9]++[112,116,114,32])++vs++[59]))),.v (.int .i64 (-1))]]:=by
       rw[List.take_add_one,hx,lcH,UL]
       simp[lcH,lcL,locT,Ln.c]
      have g6:[112,116,114,32].length+vs.length+2≤1000000000:=by
       have q1:=Qh ls (i+1)
       rw[OD hx,length_append,As]at q1
       simp only[if_true,flatten_cons,flatten_nil,jL3]at q1 ⊢
       omega
      simp only[↓eB,seval,go_sem,h1,h2,h2',h3]
      try simp only[A1,A2]
      repeat' first|exact ck|with_reducible apply And.intro|intro _
      all_goals try first|exact hlt|exact rfl|(rename_i _ h _ g;exact B7.stor _ h _ g)|(simp only[length_append,length_map,length_cons,length_nil,UJ,List.length_take]at *;omega)|(rename_i h;first|exact oI h|exact nah h)|(rename_i _ h _ g;exact sL h g)|decide|omega
      refine⟨i+1,hlt,by omega,BP (t:=⟨[(1,true,.one (.p 1 0 0)),(5,true,.one (.s 69)),(6,true,.one (.v (.int .i64 ((i+1:Nat):Int))))],[(1,.vec 0 (EW 4) [(Fn.mk nm ps ls bd).c]),(69,.vec 0 zLc ((lcH HL (ls.take (i+1))).map Ln.c))]⟩) (A4 [] ?_) (A4 [.mv 69 1000] ?_)⟩
      ·rw[g5]
       simp only[↓eB,seval,go_sem,B7.fn,map_append,List.flatMap_append,append_assoc]
      ·simp only[↓eB,seval,go_sem,B7.fn,map_append,List.flatMap_append,B7.mv]
     |false=>
      have g5:(lcH HL (ls.take (i+1))).map Ln.c=(lcH HL (ls.take i)).map Ln.c++[[.v (.string (bs (([9]++[118,97,114,32])++vs++[59]))),.v (.int .i64 (-1))]]:=by
       rw[List.take_add_one,hx,lcH,UL]
       simp[lcH,lcL,locT,Ln.c]
      have g6:[118,97,114,32].length+vs.length+2≤1000000000:=by
       have q1:=Qh ls (i+1)
       rw[OD hx,length_append,As]at q1
       simp only[jB,if_false,flatten_cons,flatten_nil,jL3]at q1 ⊢
       omega
      simp only[↓eB,seval,go_sem,h1,h2,h2',h3]
      try simp only[A1,A2]
      repeat' first|exact ck|with_reducible apply And.intro|intro _
      all_goals try first|exact hlt|exact rfl|(rename_i _ h _ g;exact B7.stor _ h _ g)|(simp only[length_append,length_map,length_cons,length_nil,UJ,List.length_take]at *;omega)|(rename_i h;first|exact oI h|exact nah h)|(rename_i _ h _ g;exact sL h g)|decide|omega
      refine⟨i+1,hlt,by omega,BP (t:=⟨[(1,true,.one (.p 1 0 0)),(5,true,.one (.s 69)),(6,true,.one (.v (.int .i64 ((i+1:Nat):Int))))],[(1,.vec 0 (EW 4) [(Fn.mk nm ps ls bd).c]),(69,.vec 0 zLc ((lcH HL (ls.take (i+1))).map Ln.c))]⟩) (A4 [] ?_) (A4 [.mv 69 1000] ?_)⟩
      ·rw[g5]
       simp only[↓eB,seval,go_sem,B7.fn,map_append,List.flatMap_append,append_assoc]
      ·simp only[↓eB,seval,go_sem,B7.fn,map_append,List.flatMap_append,B7.mv]
  |some a=>
   have hlt:i<ps.length:=(List.getElem?_eq_some_iff.1 hx).1
   have h1:=Ah hlt
   have h2:=AX hlt
   have h2':=AM (n:=ps.length) (Nat.le_of_lt hlt) (by omega)
   have hj2:((([102,110,32]++nm)++[40])++jnT (vpT ps (i+1))).length+2≤1000000000:=by
    have:=fj ps (i+1)
    rw[length_append]
    omega
   have g5:(([102,110,32]++nm)++[40])++jnT (vpT ps (i+1))=(([102,110,32]++nm)++[40])++jnT (vpT ps i)++((if i=0 then [] else [44,32])++vrT a):=by rw[qs hx];simp only[append_assoc]
   rw[g5]at hj2
   obtain⟨vs,vp⟩:=a
   have h3:=So hx
   cases i with
   |zero=>
    have k1:decide ((0:Int)<(ps.length:Int))=true:=h1
    have k2:((0:Int)<(ps.length:Int))=True:=h2
    have k3:IntKind.i64.wrap (0+1)=1:=h2'
    cases vp with
     |true=>
      have g6:(([102,110,32]++nm)++[40])++jnT (vpT ps 1)=(([102,110,32]++nm)++[40])++([42]++vs):=by rw[g5];simp[Hw,DJ,vrT]
      simp only[↓eB,seval,go_sem,k1,k2,k3,h3,Hw,DJ]
      try simp only[A1,A2]
      repeat' first|exact ck|with_reducible apply And.intro|intro _
      all_goals try first|exact hlt|exact rfl|(simp only[Nat.succ_ne_zero,if_true,if_false,vrT,jB,Hw,DJ,nil_append,append_nil,jL3]at *;omega)|(rename_i h;first|exact oI h|exact nah h)|(rename_i _ h _ g;exact sL h g)|decide|omega
      simp only[append_assoc,cons_append,nil_append]at g6
      refine⟨0+1,hlt,by omega,A4 [] ?_⟩
      simp only[↓eB,seval,go_sem,B7.fn,map_append,List.flatMap_append,g6,append_assoc]
     |false=>
      have g6:(([102,110,32]++nm)++[40])++jnT (vpT ps 1)=(([102,110,32]++nm)++[40])++(vs):=by rw[g5];simp[Hw,DJ,vrT]
      simp only[↓eB,seval,go_sem,k1,k2,k3,h3,Hw,DJ]
      try simp only[A1,A2]
      repeat' first|exact ck|with_reducible apply And.intro|intro _
      all_goals try first|exact hlt|exact rfl|(simp only[Nat.succ_ne_zero,if_true,if_false,vrT,jB,Hw,DJ,nil_append,append_nil,jL3]at *;omega)|(rename_i h;first|exact oI h|exact nah h)|(rename_i _ h _ g;exact sL h g)|decide|omega
      simp only[append_assoc,cons_append,nil_append]at g6
      refine⟨0+1,hlt,by omega,A4 [] ?_⟩
      simp only[↓eB,seval,go_sem,B7.fn,map_append,List.flatMap_append,g6,append_assoc]
   |succ i=>
    have w0:=bu i
    cases vp with
     |true=>
      have g6:(([102,110,32]++nm)++[40])++jnT (vpT ps (i+1+1))=(([102,110,32]++nm)++[40])++jnT (vpT ps (i+1))++([44,32]++([42]++vs)):=by rw[g5];rfl
      simp only[↓eB,seval,go_sem,h1,h2,h2',h3,w0]
      try simp only[A1,A2]
      repeat' first|exact ck|with_reducible apply And.intro|intro _
      all_goals try first|exact hlt|exact rfl|(simp only[Nat.succ_ne_zero,if_true,if_false,vrT,jB,Hw,DJ,nil_append,append_nil,jL3]at *;omega)|(rename_i h;first|exact oI h|exact nah h)|(rename_i _ h _ g;exact sL h g)|decide|omega
      simp only[append_assoc,cons_append,nil_append]at g6
      refine⟨i+1+1,hlt,by omega,A4 [] ?_⟩
      simp only[↓eB,seval,go_sem,B7.fn,map_append,List.flatMap_append,g6,append_assoc]
     |false=>
      have g6:(([102,110,32]++nm)++[40])++jnT (vpT ps (i+1+1))=(([102,110,32]++nm)++[40])++jnT (vpT ps (i+1))++([44,32]++(vs)):=by rw[g5];rfl
      simp only[↓eB,seval,go_sem,h1,h2,h2',h3,w0]
      try simp only[A1,A2]
      repeat' first|exact ck|with_reducible apply And.intro|intro _
      all_goals try first|exact hlt|exact rfl|(simp only[Nat.succ_ne_zero,if_true,if_false,vrT,jB,Hw,DJ,nil_append,append_nil,jL3]at *;omega)|(rename_i h;first|exact oI h|exact nah h)|(rename_i _ h _ g;exact sL h g)|decide|omega
      simp only[append_assoc,cons_append,nil_append]at g6
      refine⟨i+1+1,hlt,by omega,A4 [] ?_⟩
      simp only[↓eB,seval,go_sem,B7.fn,map_append,List.flatMap_append,g6,append_assoc]
end Go.Proofs.YtbiepiggmagfcaaGreatDoor
