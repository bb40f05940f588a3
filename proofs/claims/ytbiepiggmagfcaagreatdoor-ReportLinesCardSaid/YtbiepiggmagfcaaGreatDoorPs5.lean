/- print: a function. Conditions: the statements are of known kinds, the numbers are of 64 bits, the text is shorter than 10^9 bytes; the table of powers of ten is laid. -/
import Derived.Test.YtbiepiggmagfcaaGreatDoorPs4
set_option linter.unusedVariables false
set_option linter.unusedSimpArgs false
open List (length_append append_assoc map_append)
namespace Go.Proofs.YtbiepiggmagfcaaGreatDoor
open Go Go.Sy Go.RowKit
theorem Zn:zVr.length=2:=rfl
theorem So {l:List Vr} {i:Nat} {s:List UInt8} {p:Bool} (h:l[i]?=some ⟨s,p⟩) (z:List D):(l.map Vr.r).getD i z=[dS s,.v (.bool p)]:=by simp[List.getD,h,Vr.r]
def vpT (l:List Vr) (i:Nat):List (List UInt8):=(l.take i).map vrT
theorem Hw (l:List Vr):vpT l 0=[]:=rfl
theorem nK {l:List Vr} {i:Nat} {x:Vr} (h:l[i]?=some x):vpT l i++[vrT x]=vpT l (i+1):=by
 unfold vpT;rw[List.take_add_one,h];simp
theorem Zo {l:List Vr} {i:Nat} (h:l.length≤i):vpT l i=l.map vrT:=by unfold vpT;rw[List.take_of_length_le h]
theorem Zp {l:List Vr} {i:Nat} (h:i≤l.length):(vpT l i).length=i:=by unfold vpT;rw[List.length_map,List.length_take];omega
def lcL (l:List Vr):List Ln:=l.map fun v=>⟨locT v,-1⟩
theorem OD {l:List Vr} {i:Nat} {v:Vr} (h:l[i]?=some v):lnX (lcL (l.take (i+1)))=lnX (lcL (l.take i))++BL 1 [(if v.p=true then [112,116,114,32] else [118,97,114,32]),v.s,[59]]:=by
 rw[List.take_add_one,h,lcL,map_append,Bb]
 simp[lcL,lnX,BL,locT]
theorem UL (l m:List Vr):lcL (l++m)=lcL l++lcL m:=by simp[lcL]
theorem Qh (l:List Vr) (i:Nat):(lnX (lcL (l.take i))).length≤(lnX (lcL l)).length:=by
 have h1:lcL l=lcL (l.take i)++lcL (l.drop i):=by rw[← UL,List.take_append_drop]
 rw[h1,MY];omega
def fnH (f:Fn):List (List UInt8):=[[102,110,32],f.name,[40],jnT (f.ps.map vrT),[41,32,123]]
theorem NY (f:Fn):fnT f=BL 0 (fnH f)++(lnX (lcL f.ls)++(lnX (lnB 1 f.body)++BL 0 [[125]])):=by
 simp only[fnT,lnF,EA,Bb,fnH,lcL,AO,BL];simp
abbrev XP (n:Nat) (m:Nat) (f:Fn):Prop:=Cp n m f.body∧m≤1000∧f.ps.length≤5000∧f.ls.length≤5000∧(fnT f).length≤1000000000
abbrev Lk (n:Nat) (m:Nat) (f:Fn):SV:=.one (.v (.string (bs (fnT f))))
noncomputable abbrev Ra:ArgC ((Fn)×Unit):=(acS (cFn) ac0)
abbrev XQ (n:Nat) (m:Nat):Prop:=Cn Tryz.prog 15 AY Ra (fun p:(Fn)×Unit=>XP n m p.1) (fun p:(Fn)×Unit=>Lk n m p.1)
theorem kU (n:Nat) (m:Nat):∀p:(Fn)×Unit,((fun p:(Fn)×Unit=>Lk n m p.1) p).names=[]:=by intro p;rfl
noncomputable def XR {X:Ctx} {w0:World} (n:Nat) (m:Nat) (h:XQ n m) (hG:BB X w0 AY CX):Sy.Spec Tryz.prog X w0:=FK 15 Tryz.call15 AY Ra (fun p:(Fn)×Unit=>XP n m p.1) (fun p:(Fn)×Unit=>Lk n m p.1) (kU n m) h hG.stays
attribute [local go_sem] Fn.c Vr.r adC Kf Kg MF Ht Jc KW KV UQ BZ inK Zn MC Jk Jm Hh Hi Jj Jl MB cF cE cD sR1 UA CL QT HS JB G5 Nb XZ XK
set_option maxRecDepth 20000 in set_option maxHeartbeats 8000000 in
theorem y_pFunc (n:Nat) (m:Nat):XQ n m:=by
 rintro ⟨f,_u⟩ w fz xs hT hc hfz hl hx
 have hG:=Cj Br DA (fz:=fz) hT
 refine A9 Tryz.func15 rfl w fz [JB,(G5 (BC _ _)),(HS n m (OC n m) hG),(CL 111 1 (Ds _ _) (BC _ _))] [] Ra (fun p:(Fn)×Unit=>Lk n m p.1) _ xs hfz hl hx (jN rfl) ?_
 clear hx hl hfz xs
 simp only[Tryz.f15]
 obtain⟨hk,hm,hp,hq,hlen⟩:=hc
 rw[NY]at hlen
 obtain⟨nm,ps,ls,bd⟩:=f
 dsimp only at hk hp hq hlen
 have hlj:(jnT (ps.map vrT)).length≤1000000000:=by
  simp only[fnH,length_append,As,List.flatten_cons]at hlen;omega
 have hl0:(BL 0 [[102,110,32],nm,[40],jnT (ps.map vrT),[41,32,123]]).length+(lnX (lcL ls)).length+(lnX (lnB 1 bd)).length+2≤1000000000:=by
  simp only[fnH,length_append]at hlen
  have:=As 0 [[125]]
  simp only[List.flatten_cons,List.flatten_nil,length_append,List.length_cons,List.length_nil]at this
  omega
 simp only[↓eB,seval,go_sem,Af.ds]
 refine AH (Y:=Nat) (fun z=>z≤ps.length)
  (fun z=>⟨[(1,true,.one (.p 1 0 0)),(3,true,.one (.p 3 0 0)),(4,true,.one (.s 1000)),(10,true,.one (.d (.sl zVr (ps.map Vr.r)))),(11,true,.one (.v (.int .i64 (ps.length:Int)))),(12,true,.one (.v (.int .i64 (z:Int))))],[(1,.vec 0 (EW 4) [(Fn.mk nm ps ls bd).c]),(3,.vec 0 (tgN 111 3) [[.v (.pointer none),.ov zB8 [],.v (.int .i64 0)]]),(1000,.vec 0 zSs ((vpT ps z).map sR1))]⟩)
  (fun z=>ps.length-z) 0 (Nat.zero_le _) ?_ ?_
 ·refine A4 [.nil 4 1000 zSs,.nilc 3 0 1 zB8] ?_;simp only[↓eB,seval,go_sem,Af.ds,Hw]
 ·rintro i hi
  refine Ab [JB,G5 (BC _ _),HS n m (OC n m) hG,CL 111 1 (Ds _ _) (BC _ _)] [] _ _ _ ?_
  cases hx:ps[i]? with
  |none=>
   have h2:=List.getElem?_eq_none_iff.1 hx
   have h1:=Ao h2
   have h3:=Zo h2
   have l1:(ps.map vrT).length≤1000000:=by rw[List.length_map];omega
   have l2:([]:List UInt8).length+(0:Int).toNat+[[102,110,32],nm,[40],jnT (ps.map vrT),[41,32,123]].flatten.length+1≤100000000000000:=by
    have:=As 0 [[102,110,32],nm,[40],jnT (ps.map vrT),[41,32,123]]
    show 0+0+_+1≤_
    omega
   have w1:IntKind.i64.wrap (0+1)=1:=by rw[wrap_i64 (by omega) (by omega)];rfl
   simp only[↓eB,seval,go_sem,Af.ds,h1,h3,w1]
   try simp only[A1,A2]
   repeat' (first|exact ck|with_reducible apply And.intro)
   all_goals try first|exact l1|exact l2|exact hlj|exact rfl|(exact jN rfl)|(exact Int.le_refl _)|(show (0:Int)≤1000000;decide)|decide|omega
   refine AH (Y:=Nat) (fun z=>z≤ls.length) (fun z=>⟨[(1,true,.one (.p 1 0 0)),(3,true,.one (.p 3 0 0)),(44,true,.one (.d (.sl zVr (ls.map Vr.r)))),(45,true,.one (.v (.int .i64 (ls.length:Int)))),(46,true,.one (.v (.int .i64 (z:Int))))],[(1,.vec 0 (EW 4) [(Fn.mk nm ps ls bd).c]),(3,.vec 0 (tgN 111 3) [[.p 3 0 0,.ov zB8 ((BL 0 [[102,110,32],nm,[40],jnT (ps.map vrT),[41,32,123]]++lnX (lcL (ls.take z))).map byK),.v (.int .i64 1)]])]⟩)
    (fun z=>ls.length-z) 0 (Nat.zero_le _) ?_ ?_
   ·refine A4 [] ?_;simp only[↓eB,seval,go_sem,Af.ds,lcL,AO]
   ·rintro i hi
    refine Ab [JB,G5 (BC _ _),HS n m (OC n m) hG,CL 111 1 (Ds _ _) (BC _ _)] [] _ _ _ ?_
    cases hx:ls[i]? with
    |none=>
     have h2:=List.getElem?_eq_none_iff.1 hx
     have h1:=Ao h2
     have h3:ls.take i=ls:=List.take_of_length_le h2
     have w2:IntKind.i64.wrap (1-1)=0:=by rw[wrap_i64 (by omega) (by omega)];rfl
     have g1:(1:Int)+(m:Int)≤1000000:=by omega
     have g2:(BL 0 [[102,110,32],nm,[40],jnT (ps.map vrT),[41,32,123]]++lnX (lcL ls)).length+(lnX (lnB (1:Int).toNat bd)).length≤1000000000:=by
      rw[length_append];show _+(lnX (lnB 1 bd)).length≤_;omega
     have g4:(BL 0 [[102,110,32],nm,[40],jnT (ps.map vrT),[41,32,123]]++lnX (lcL ls)++lnX (lnB 1 bd)).length+(0:Int).toNat+[[125]].flatten.length+1≤100000000000000:=by
      rw[length_append,length_append];show _+0+1+1≤_;omega
     have g7:(BL 0 [[102,110,32],nm,[40],jnT (ps.map vrT),[41,32,123]]++lnX (lcL ls)++lnX (lnB 1 bd)++BL 0 [[125]]).length≤100000000000000:=by
      rw[length_append,length_append,length_append,As 0 [[125]]];show _+(0+1+1)≤_;omega
     simp only[↓eB,seval,go_sem,Af.ds,h1,h3,w2]
     try simp only[A1,A2]
     repeat' first|exact ck|with_reducible apply And.intro|intro _
     all_goals first|exact hk|exact g1|exact g2|exact g4|exact g7|exact rfl|(exact jN rfl)|(show (0:Int)≤1;decide)|(show (0:Int)≤0;decide)|(show (0:Int)≤1000000;decide)|(rename_i h;first|exact oI h|exact nah h)|(rename_i _ h _ g;exact sL h g)|decide|omega|(refine A0 [] ?_;simp only[↓eB,seval,go_sem,bne,Lk,NY,fnH,append_assoc])
    |some v=>
     have hlt:i<ls.length:=(List.getElem?_eq_some_iff.1 hx).1
     have h1:=Ah hlt
     have h2:=AX hlt
     have h2':=AM (n:=ls.length) (Nat.le_of_lt hlt) (by omega)
     obtain⟨vs,vp⟩:=v
     have h3:=So hx
     cases vp with
     |true=>
      have g5:=OD hx
      simp only[if_true,if_false,jB]at g5
      have g6:=As 1 [[112,116,114,32],vs,[59]]
      have g9:(BL 0 [[102,110,32],nm,[40],jnT (ps.map vrT),[41,32,123]]++lnX (lcL (ls.take i))).length+(1:Int).toNat+[[112,116,114,32],vs,[59]].flatten.length+1≤100000000000000:=by
       have q1:=Qh ls (i+1)
       rw[g5]at q1
       simp only[length_append,g6]at q1 ⊢
       show _+1+_+1≤_
       omega
      simp only[↓eB,seval,go_sem,Af.ds,h1,h2,h2',h3]
      try simp only[A1,A2]
      repeat' first|exact ck|with_reducible apply And.intro|intro _
      all_goals try first|exact hlt|exact rfl|exact g9|(exact jN rfl)|(show (0:Int)≤1;decide)|(show (1:Int)≤1000000;decide)|(rename_i h;first|exact oI h|exact nah h)|(rename_i _ h _ g;exact sL h g)|decide|omega
      refine⟨i+1,hlt,by omega,A4 [] ?_⟩
      simp only[↓eB,seval,go_sem,Af.fn,map_append,List.flatMap_append,Af.ds,g5,append_assoc]
     |false=>
      have g5:=OD hx
      simp only[if_true,if_false,jB]at g5
      have g6:=As 1 [[118,97,114,32],vs,[59]]
      have g9:(BL 0 [[102,110,32],nm,[40],jnT (ps.map vrT),[41,32,123]]++lnX (lcL (ls.take i))).length+(1:Int).toNat+[[118,97,114,32],vs,[59]].flatten.length+1≤100000000000000:=by
       have q1:=Qh ls (i+1)
       rw[g5]at q1
       simp only[length_append,g6]at q1 ⊢
       show _+1+_+1≤_
       omega
      simp only[↓eB,seval,go_sem,Af.ds,h1,h2,h2',h3]
      try simp only[A1,A2]
      repeat' first|exact ck|with_reducible apply And.intro|intro _
      all_goals try first|exact hlt|exact rfl|exact g9|(exact jN rfl)|(show (0:Int)≤1;decide)|(show (1:Int)≤1000000;decide)|(rename_i h;first|exact oI h|exact nah h)|(rename_i _ h _ g;exact sL h g)|decide|omega
      refine⟨i+1,hlt,by omega,A4 [] ?_⟩
      simp only[↓eB,seval,go_sem,Af.fn,map_append,List.flatMap_append,Af.ds,g5,append_assoc]
  |some a=>
   have hlt:i<ps.length:=(List.getElem?_eq_some_iff.1 hx).1
   have h1:=Ah hlt
   have h2:=AX hlt
   have h2':=AM (n:=ps.length) (Nat.le_of_lt hlt) (by omega)
   have g4:=Zp (Nat.le_of_lt hlt)
   have g5:=nK hx
   have g6:∀r:List UInt8,((vpT ps i).map sR1++[sR1 r]).length≤5001:=by intro r;simp[g4];omega
   have g8:a.s.length+1≤1000000001:=by
    have q1:vrT a∈ps.map vrT:=List.mem_map.2 ⟨_,List.mem_of_getElem? hx,rfl⟩
    have q2:=fm q1
    have q3:a.s.length≤(vrT a).length:=by unfold vrT;split<;>simp
    omega
   obtain⟨vs,vp⟩:=a
   dsimp only at g8
   have h3:=So hx
   cases vp with
   |true=>
    have g7:(vpT ps i).map sR1++[sR1 ([42]++vs)]=(vpT ps (i+1)).map sR1:=by rw[← g5,map_append];rfl
    simp only[↓eB,seval,go_sem,Af.ds,h1,h2,h2',h3]
    try simp only[A1,A2]
    repeat' first|exact ck|with_reducible apply And.intro|intro _
    all_goals try first|exact hlt|exact rfl|exact g8|(rename_i h;first|exact oI h|exact nah h)|(rename_i _ h _ g;exact sL h g)|decide|omega
    refine⟨i+1,hlt,by omega,BP (t:=⟨[(1,true,.one (.p 1 0 0)),(3,true,.one (.p 3 0 0)),(4,true,.one (.s 23)),(10,true,.one (.d (.sl zVr (ps.map Vr.r)))),(11,true,.one (.v (.int .i64 (ps.length:Int)))),(12,true,.one (.v (.int .i64 ((i+1:Nat):Int))))],[(1,.vec 0 (EW 4) [(Fn.mk nm ps ls bd).c]),(3,.vec 0 (tgN 111 3) [[.v (.pointer none),.ov zB8 [],.v (.int .i64 0)]]),(23,.vec 0 zSs ((vpT ps (i+1)).map sR1))]⟩) (A4 [] ?_) (A4 [.mv 23 1000] ?_)⟩
    ·rw[← g7]
     simp only[↓eB,seval,go_sem,Af.fn,map_append,List.flatMap_append,Af.ds]
    ·simp only[↓eB,seval,go_sem,Af.fn,map_append,List.flatMap_append,Af.ds,Af.mv]
   |false=>
    have g7:(vpT ps i).map sR1++[sR1 (vs)]=(vpT ps (i+1)).map sR1:=by rw[← g5,map_append];rfl
    simp only[↓eB,seval,go_sem,Af.ds,h1,h2,h2',h3]
    try simp only[A1,A2]
    repeat' first|exact ck|with_reducible apply And.intro|intro _
    all_goals try first|exact hlt|exact rfl|exact g8|(rename_i h;first|exact oI h|exact nah h)|(rename_i _ h _ g;exact sL h g)|decide|omega
    refine⟨i+1,hlt,by omega,BP (t:=⟨[(1,true,.one (.p 1 0 0)),(3,true,.one (.p 3 0 0)),(4,true,.one (.s 28)),(10,true,.one (.d (.sl zVr (ps.map Vr.r)))),(11,true,.one (.v (.int .i64 (ps.length:Int)))),(12,true,.one (.v (.int .i64 ((i+1:Nat):Int))))],[(1,.vec 0 (EW 4) [(Fn.mk nm ps ls bd).c]),(3,.vec 0 (tgN 111 3) [[.v (.pointer none),.ov zB8 [],.v (.int .i64 0)]]),(28,.vec 0 zSs ((vpT ps (i+1)).map sR1))]⟩) (A4 [] ?_) (A4 [.mv 28 1000] ?_)⟩
    ·rw[← g7]
     simp only[↓eB,seval,go_sem,Af.fn,map_append,List.flatMap_append,Af.ds]
    ·simp only[↓eB,seval,go_sem,Af.fn,map_append,List.flatMap_append,Af.ds,Af.mv]
end Go.Proofs.YtbiepiggmagfcaaGreatDoor
