/- The document's text of a function, of the globals. Conditions: each node has its parts, the numbers are of 64 bits, the text is shorter than 10^9 bytes. -/
import Derived.Test.YtbiepiggmagfcaaGreatDoorPr4
import Derived.Test.YtbiepiggmagfcaaGreatDoorPa0
import Derived.Test.YtbiepiggmagfcaaGreatDoorPa1
set_option linter.unusedVariables false
set_option linter.unusedSimpArgs false
namespace Go.Proofs.YtbiepiggmagfcaaGreatDoor
open Go Go.Sy Go.RowKit
theorem lnD_at {l:List Ln} {i:Nat} {x:Ln} (h:l[i]?=some x) (z:List D):(l.map Ln.r).getD i z=[dS x.t,dI x.n]:=by simp[List.getD,h,Ln.r]
theorem lnX_take {l:List Ln} {i:Nat} {x:Ln} (h:l[i]?=some x):lnX (l.take (i+1))=lnX (l.take i)++(x.t++[10]):=fm_take (fun x:Ln=>x.t++[10]) h
theorem lnX_tlen (l:List Ln) (i:Nat):(lnX (l.take i)).length≤(lnX l).length:=fm_len (fun x:Ln=>x.t++[10]) l i
abbrev yc_rFuncText (n:Nat) (m:Nat) (f:Fn):Prop:=okPr n m f.body∧okRg m f.body∧m≤1000∧f.ps.length≤5000∧f.ls.length≤5000∧(fnT f).length≤1000000000
abbrev yr_rFuncText (n:Nat) (m:Nat) (f:Fn):SV:=.one (.v (.string (bs (fnT f))))
noncomputable abbrev ya_rFuncText:ArgC ((Fn)×Unit):=(acS (cFn) ac0)
abbrev yq_rFuncText (n:Nat) (m:Nat):Prop:=CallsY Tryz.prog 16 ya_rFuncText (fun p:(Fn)×Unit=>yc_rFuncText n m p.1) (fun p:(Fn)×Unit=>yr_rFuncText n m p.1)
theorem yn_rFuncText (n:Nat) (m:Nat):∀p:(Fn)×Unit,((fun p:(Fn)×Unit=>yr_rFuncText n m p.1) p).names=[]:=by intro p;rfl
noncomputable def yg_rFuncText {X:Ctx} {w0:World} (n:Nat) (m:Nat) (h:yq_rFuncText n m):Sy.Spec Tryz.prog X w0:=specD 16 Tryz.call16 ya_rFuncText (fun p:(Fn)×Unit=>yc_rFuncText n m p.1) (fun p:(Fn)×Unit=>yr_rFuncText n m p.1) (yn_rFuncText n m) h
attribute [local go_sem] Fn.c Ga.r Gb.c cFn_d cFn_e cGb_d cGb_e lnR sD1 zGa_ln zLn_ln zSD_ln
set_option maxRecDepth 20000 in set_option maxHeartbeats 8000000 in
theorem y_rFuncText (n:Nat) (m:Nat):yq_rFuncText n m:=by
 rintro ⟨f,_u⟩ w fz xs hc hfz hl hx
 refine calls_toL Tryz.func16 rfl w fz [(yg_rLines n m (y_rLines n m))] [] ya_rFuncText (fun p:(Fn)×Unit=>yr_rFuncText n m p.1) _ xs hfz hl hx (Nat.le_of_ble_eq_true rfl) ?_
 clear hx hl hfz xs
 simp only[Tryz.f16]
 obtain⟨hk,hr,hm,hp,hq,hlen⟩:=hc
 have hn:=lnX_lens (lnF f)
 have hT:fnT f=lnX (lnF f):=rfl
 rw[hT]at hlen
 obtain⟨nm,ps,ls,bd⟩:=f
 simp only[↓eB,seval,go_sem,yg_rLines,yp_Dc]
 try simp only[impB,impN]
 repeat' (first|exact ck|with_reducible apply And.intro)
 all_goals try first|exact hk|exact hr|exact hm|exact hp|exact hq|exact hlen|decide|omega
 generalize lnF ⟨nm,ps,ls,bd⟩=l at hlen hn hT
 refine loop_ok (Y:=Nat) (fun z=>z≤l.length) (fun z=>⟨[(3,true,.one (.v (.string (bs (lnX (l.take z)))))),(4,true,.one (.d (.sl zLn (l.map Ln.r)))),(5,true,.one (.v (.int .i64 (z:Int))))],[]⟩)
  (fun z=>l.length-z) 0 (Nat.zero_le _) ?_ ?_
 ·refine to_with [] ?_;simp only[↓eB,seval,go_sem,lnX_nil]
 ·rintro i hi
  refine vc_ok [yg_rLines n m (y_rLines n m)] [] _ _ _ ?_
  cases hx:l[i]? with
  |none=>
   have h2:=List.getElem?_eq_none_iff.1 hx
   have h1:=natI_ge h2
   have h3:l.take i=l:=List.take_of_length_le h2
   simp only[↓eB,seval,go_sem,h1,h3]
   try simp only[impB,impN]
   repeat' first|exact ck|with_reducible apply And.intro|intro _
   all_goals first|exact trivial|(rename_i h;first|exact oI h|exact nah h)|(rename_i _ h _ g;exact sL h g)|decide|omega|(refine ret_with [] ?_;simp only[↓eB,seval,go_sem,bne,yr_rFuncText,hT])
  |some x=>
   have hlt:i<l.length:=(List.getElem?_eq_some_iff.1 hx).1
   have h1:=natI_lt hlt
   have h2:=natI_ltp hlt
   have h2':=natI_succ (n:=l.length) (Nat.le_of_lt hlt) (by omega)
   have h3:=lnD_at hx
   have g5:=lnX_take hx
   have g6:=lnX_tlen l (i+1)
   rw[g5,List.length_append,List.length_append]at g6
   simp only[↓eB,seval,go_sem,h1,h2,h2',h3]
   try simp only[impB,impN]
   repeat' first|exact ck|with_reducible apply And.intro|intro _
   all_goals try first|exact hlt|exact rfl|(simp only[List.length_append,List.length_cons,List.length_nil]at *;omega)|(rename_i h;first|exact oI h|exact nah h)|(rename_i _ h _ g;exact sL h g)|decide|omega
   refine⟨i+1,hlt,by omega,to_with [] ?_⟩
   simp only[↓eB,seval,go_sem,g5,List.append_assoc]
theorem ceX (c:List UInt8):lineT 0 (ceP c)=[99,101,108,108,32]++c++[59,10]:=by simp[lineT,ceP]
theorem arX (a:Ga):lineT 0 (arP a)=[97,114,114,97,121,32]++a.s++[91]++itT a.n++[93,59,10]:=by simp[lineT,arP]
abbrev yc_rGlobalsText (g:Gb):Prop:=(∀a∈g.as',w64 a.n)∧g.cs.length≤5000∧g.as'.length≤5000∧(glT g).length≤1000000000
abbrev yr_rGlobalsText (g:Gb):SV:=SV.one (.v (.string (bs (glT g))))
set_option maxRecDepth 20000 in set_option maxHeartbeats 8000000 in
theorem y_rGlobalsText:CallsY Tryz.prog 18 (acS (cGb) ac0) (fun p:(Gb×Unit)=>yc_rGlobalsText p.1) (fun p:(Gb×Unit)=>yr_rGlobalsText p.1):=by
 rintro ⟨g,_u⟩ w fz xs hc hfz hl hx
 refine calls_toL Tryz.func18 rfl w fz [yp_Dc] [] (acS (cGb) ac0) (fun p:(Gb×Unit)=>yr_rGlobalsText p.1) _ xs hfz hl hx (Nat.le_of_ble_eq_true rfl) ?_
 clear hx hl hfz xs
 simp only[Tryz.f18]
 obtain⟨hw,hp,hq,hlen⟩:=hc
 obtain⟨cs,as'⟩:=g
 dsimp only at hw hp hq hlen
 have hlen:(ceT cs).length+(arT as').length≤1000000000:=by simpa [glT] using hlen
 simp only[↓eB,seval,go_sem]
 refine loop_ok (Y:=Nat) (fun z=>z≤cs.length)
  (fun z=>⟨[(1,true,.one (.p 1 0 0)),(3,true,.one (.v (.string (bs (ceT (cs.take z)))))),(4,true,.one (.v (.int .i64 (z:Int))))],[(1,.vec 0 (anyN 2) [(Gb.mk cs as').c])]⟩)
  (fun z=>cs.length-z) 0 (Nat.zero_le _) ?_ ?_
 ·refine to_with [] ?_;simp only[↓eB,seval,go_sem,ceT]
 ·rintro i hi
  refine vc_ok [yp_Dc] [] _ _ _ ?_
  cases hx:cs[i]? with
  |none=>
   have h2:=List.getElem?_eq_none_iff.1 hx
   have h1:=natI_ge h2
   have h3:cs.take i=cs:=List.take_of_length_le h2
   simp only[↓eB,seval,go_sem,h1,h3]
   refine loop_ok (Y:=Nat) (fun z=>z≤as'.length)
    (fun z=>⟨[(1,true,.one (.p 1 0 0)),(3,true,.one (.v (.string (bs (ceT cs++arT (as'.take z)))))),(5,true,.one (.v (.int .i64 (z:Int))))],[(1,.vec 0 (anyN 2) [(Gb.mk cs as').c])]⟩)
    (fun z=>as'.length-z) 0 (Nat.zero_le _) ?_ ?_
   ·refine to_with [] ?_;simp only[↓eB,seval,go_sem,arT]
   ·rintro i hi
    refine vc_ok [yp_Dc] [] _ _ _ ?_
    cases hx:as'[i]? with
    |none=>
     have h2:=List.getElem?_eq_none_iff.1 hx
     have h1:=natI_ge h2
     have h3:as'.take i=as':=List.take_of_length_le h2
     simp only[↓eB,seval,go_sem,h1,h3]
     try simp only[impB,impN]
     repeat' first|exact ck|with_reducible apply And.intro|intro _
     all_goals first|exact trivial|(rename_i h;first|exact oI h|exact nah h)|(rename_i _ h _ g;exact sL h g)|decide|omega|(refine ret_with [] ?_;simp only[↓eB,seval,go_sem,bne,yr_rGlobalsText,glT])
    |some a=>
     have hlt:i<as'.length:=(List.getElem?_eq_some_iff.1 hx).1
     have h1:=natI_lt hlt
     have h2:=natI_ltp hlt
     have h2':=natI_succ (n:=as'.length) (Nat.le_of_lt hlt) (by omega)
     have g5:arT (as'.take (i+1))=arT (as'.take i)++lineT 0 (arP a):=fm_take _ hx
     have g8:=hw a (List.mem_of_getElem? hx)
     have g9:(arT (as'.take (i+1))).length≤(arT as').length:=fm_len _ _ _
     rw[g5,arX]at g9
     rw[arX]at g5
     obtain⟨vs,vn⟩:=a
     have h3:=gaD_at hx
     simp only[↓eB,seval,go_sem,yp_Dc,h1,h2,h2',h3]
     try simp only[impB,impN]
     repeat' first|exact ck|with_reducible apply And.intro|intro _
     all_goals try first|exact hlt|exact rfl|exact g8.1|exact g8.2|(simp only[List.length_append,List.length_cons,List.length_nil]at *;omega)|(rename_i h;first|exact oI h|exact nah h)|(rename_i _ h _ g;exact sL h g)|decide|omega
     refine⟨i+1,hlt,by omega,to_with [] ?_⟩
     simp only[↓eB,seval,go_sem,g5,List.append_assoc]
  |some a=>
   have hlt:i<cs.length:=(List.getElem?_eq_some_iff.1 hx).1
   have h1:=natI_lt hlt
   have h2:=natI_ltp hlt
   have h2':=natI_succ (n:=cs.length) (Nat.le_of_lt hlt) (by omega)
   have g5:ceT (cs.take (i+1))=ceT (cs.take i)++lineT 0 (ceP a):=fm_take _ hx
   have g9:(ceT (cs.take (i+1))).length≤(ceT cs).length:=fm_len _ _ _
   rw[g5,ceX]at g9
   rw[ceX]at g5
   have h3:=sD_at hx
   simp only[↓eB,seval,go_sem,h1,h2,h2',h3]
   try simp only[impB,impN]
   repeat' first|exact ck|with_reducible apply And.intro|intro _
   all_goals try first|exact hlt|exact rfl|(simp only[List.length_append,List.length_cons,List.length_nil]at *;omega)|(rename_i h;first|exact oI h|exact nah h)|(rename_i _ h _ g;exact sL h g)|decide|omega
   refine⟨i+1,hlt,by omega,to_with [] ?_⟩
   simp only[↓eB,seval,go_sem,g5,List.append_assoc]
theorem yn_rGlobalsText:∀p:(Gb×Unit),((fun p:(Gb×Unit)=>yr_rGlobalsText p.1) p).names=[]:=by intro p;first|rfl|simp[SV.names,C.names]
noncomputable def yp_rGlobalsText {X:Ctx} {w0:World}:Sy.Spec Tryz.prog X w0:=specD 18 Tryz.call18 (acS (cGb) ac0) (fun p:(Gb×Unit)=>yc_rGlobalsText p.1) (fun p:(Gb×Unit)=>yr_rGlobalsText p.1) yn_rGlobalsText y_rGlobalsText
end Go.Proofs.YtbiepiggmagfcaaGreatDoor
namespace Go.Proofs.YtbiepiggmagfcaaGreatDoor
open Go Go.Sy Go.RowKit
def rxG:Nat→Nat→List UInt8→List Tok→List Tok×Int×Int
 |0,_,_,out=>(out,0,0)
 |_+1,_,[],out=>(out,0,0)
 |f+1,i,c::r,out=>
  if blB (c.toNat:Int)=true then rxG f (i+1) r out
  else if ((c.toNat:Int)==35)=true then rxG f (i+spanN nlB (c::r)) ((c::r).drop (spanN nlB (c::r))) out
  else if letB (c.toNat:Int)=true then (if decide (32<((spanN idB (c::r):Nat):Int))=true then ([],(i:Int),53) else rxG f (i+spanN idB (c::r)) ((c::r).drop (spanN idB (c::r))) (out++[⟨0,(c::r).take (spanN idB (c::r)),(i:Int)⟩]))
  else if digB (c.toNat:Int)=true then
   (if greB (c::r)=true then ([],(i:Int),53)
    else if (decide (0<((c::r).drop (spanN digB (c::r))).length)&&letB ((((c::r).drop (spanN digB (c::r))).getD 0 0).toNat:Int)||((c.toNat:Int)==48&&decide (1<((spanN digB (c::r):Nat):Int))))=true then ([],(i:Int),50)
    else rxG f (i+spanN digB (c::r)) ((c::r).drop (spanN digB (c::r))) (out++[⟨1,(c::r).take (spanN digB (c::r)),(i:Int)⟩]))
  else if (decide (2≤(c::r).length)&&((c::r).take 2==[61,61]||(c::r).take 2==[33,61]||(c::r).take 2==[60,61]||(c::r).take 2==[62,61]||(c::r).take 2==[38,38]||(c::r).take 2==[124,124]))=true then rxG f (i+2) ((c::r).drop 2) (out++[⟨2,(c::r).take 2,(i:Int)⟩])
  else if oneB signs (c.toNat:Int)=true then rxG f (i+1) r (out++[⟨2,(c::r).take 1,(i:Int)⟩])
  else ([],(i:Int),50)
theorem getD_drop (s:List UInt8) (i k:Nat):(s.drop i).getD k 0=s.getD (i+k) 0:=by simp[List.getD,List.getElem?_drop]
theorem rxF_G (s:List UInt8):∀(f i:Nat) (out:List Tok),i≤s.length→rxF s f i out=rxG f i (s.drop i) out
 |0,i,out,_=>by cases s.drop i<;>rfl
 |f+1,i,out,hi=>by
  by_cases hlt:i<s.length
  ·have hd:s.drop i=s.getD i 0::s.drop (i+1):=by
    rw[List.drop_eq_getElem_cons hlt];simp[List.getD,hlt]
   have hlen:(s.drop i).length=s.length-i:=by simp
   have dd:∀k,(s.drop i).drop k=s.drop (i+k):=fun k=>by rw[List.drop_drop]
   have sp:=fun p=>spanN_le p (s.drop i)
   rw[hlen]at sp
   simp only[rxF]
   rw[if_neg (Nat.not_le.2 hlt)]
   have hG:rxG (f+1) i (s.drop i) out=rxG (f+1) i (s.getD i 0::s.drop (i+1)) out:=by rw[hd]
   rw[hG]
   simp only[rxG,← hd,dd]
   have hc:chI s i=((s.getD i 0).toNat:Int):=rfl
   rw[hc]
   have r1:∀out,rxF s f (i+1) out=rxG f (i+1) (s.drop (i+1)) out:=fun out=>rxF_G s f _ out hlt
   have rS:∀p out,rxF s f (i+spanN p (s.drop i)) out=rxG f (i+spanN p (s.drop i)) (s.drop (i+spanN p (s.drop i))) out:=fun p out=>rxF_G s f _ out (by have:=sp p;omega)
   have e1:decide (((i+spanN digB (s.drop i):Nat):Int)<(s.length:Int))=decide (0<(s.drop (i+spanN digB (s.drop i))).length):=by
    rw[decide_eq_decide,List.length_drop];omega
   have e2:chI s (i+spanN digB (s.drop i))=(((s.drop (i+spanN digB (s.drop i))).getD 0 0).toNat:Int):=by
    rw[getD_drop];rfl
   have e3:twoB s i=(decide (2≤(s.drop i).length)&&((s.drop i).take 2==[61,61]||(s.drop i).take 2==[33,61]||(s.drop i).take 2==[60,61]||(s.drop i).take 2==[62,61]||(s.drop i).take 2==[38,38]||(s.drop i).take 2==[124,124])):=by
    unfold twoB
    rw[show decide (((i+2:Nat):Int)≤(s.length:Int))=decide (2≤(s.drop i).length) by rw[decide_eq_decide,hlen];omega]
   rw[e1,e2,e3]
   split
   ·exact r1 _
   split
   ·exact rS _ _
   split
   ·split
    ·rfl
    ·exact rS _ _
   split
   ·split
    ·rfl
    split
    ·rfl
    ·exact rS _ _
   split
   ·rename_i h
    have h2:i+2≤s.length:=by
     simp only[Bool.and_eq_true,decide_eq_true_eq,hlen]at h;omega
    exact rxF_G s f _ _ h2
   split
   ·exact r1 _
   ·rfl
  ·have he:i=s.length:=by omega
   subst he
   simp only[rxF]
   rw[if_pos (Nat.le_refl _),List.drop_length]
   rfl
def kt (t:Tok):Int×List UInt8:=(t.k,t.t)
def Lx (p:List UInt8) (n:Nat) (ts:List (Int×List UInt8)):Prop:=
 ∀(f i:Nat) (r:List UInt8) (out:List Tok),∃o2,o2.map kt=ts∧rxG (f+n) i (p++r) out=rxG f (i+p.length) r (out++o2)
theorem Lx.app {p q:List UInt8} {n m:Nat} {ts us:List (Int×List UInt8)} (h:Lx p n ts) (k:Lx q m us):Lx (p++q) (n+m) (ts++us):=by
 intro f i r out
 obtain⟨o1,a1,a2⟩:=h (f+m) i (q++r) out
 obtain⟨o2,b1,b2⟩:=k f (i+p.length) r (out++o1)
 refine⟨o1++o2,by rw[List.map_append,a1,b1],?_⟩
 rw[List.append_assoc,show f+(n+m)=f+m+n by omega,a2,b2,List.length_append,Nat.add_assoc,List.append_assoc]
theorem Lx.nil:Lx [] 0 []:=fun f i r out=>⟨[],rfl,by simp⟩
theorem foldl_app (o2 out:List Tok):o2.foldl (fun o t=>o++[t]) out=out++o2:=by
 induction o2 generalizing out with
 |nil=>simp
 |cons a l ih=>rw[List.foldl_cons,ih,List.append_assoc];rfl
end Go.Proofs.YtbiepiggmagfcaaGreatDoor
namespace Go.Proofs.YtbiepiggmagfcaaGreatDoor
open Go Go.Sy Go.RowKit
def adv (p:Pr):Pr:={ p with i:=w64i (p.i+1) }
def takP (t:List UInt8) (p:Pr):Pr:=if isT t p=true then adv p else p
def wanP (t:List UInt8) (p:Pr):Pr:=if isT t p=true then adv p else failP 51 p
def namS (p:Pr):List UInt8:=if nameB p=true then (tk p).t else []
def namP (p:Pr):Pr:=if nameB p=true then adv p else failP 51 p
def opnB (p:Pr):Bool:=p.e==0&&!decide (40≤p.deep)
def opnP (p:Pr):Pr:=if (p.e==0)=true then (if decide (40≤p.deep)=true then failP 52 p else { p with deep:=w64i (p.deep+1) }) else p
def shut (p:Pr):Pr:={ p with deep:=w64i (p.deep-1) }
def outB (p:Pr):Bool:=p.e != 0||decide ((p.l.length:Int)≤p.i)
abbrev R (A:Type):=A×Pr
def prodL (u:Pr→R Ex):Nat→Ex→Pr→R Ex
 |0,a,p=>(a,p)
 |k+1,a,p=>
  if (p.e==0)=true then
   (if isT [42] p=true then prodL u k (.mk 4 0 [] a (u (adv p)).1) (u (adv p)).2
    else if isT [47] p=true then prodL u k (.mk 5 0 [] a (u (adv p)).1) (u (adv p)).2
    else if isT [37] p=true then prodL u k (.mk 6 0 [] a (u (adv p)).1) (u (adv p)).2
    else (a,p))
  else (a,p)
def prodW (u:Pr→R Ex) (p:Pr):R Ex:=prodL u p.l.length (u p).1 (u p).2
def sumL (u:Pr→R Ex):Nat→Ex→Pr→R Ex
 |0,a,p=>(a,p)
 |k+1,a,p=>
  if (p.e==0)=true then
   (if isT [45] p=true then sumL u k (.mk 3 0 [] a (prodW u (adv p)).1) (prodW u (adv p)).2
    else if isT [43] p=true then sumL u k (.mk 2 0 [] a (prodW u (adv p)).1) (prodW u (adv p)).2
    else (a,p))
  else (a,p)
def sumW (u:Pr→R Ex) (p:Pr):R Ex:=sumL u p.l.length (prodW u p).1 (prodW u p).2
def unF:Nat→Pr→R Ex
 |0,p=>(.nil,p)
 |f+1,p=>
  if outB p=true then (.nil,failP 51 p)
  else if isT [45] p=true then
   (if opnB p=true then (.mk 7 0 [] (unF f (adv (opnP p))).1 .nil,shut (unF f (adv (opnP p))).2) else (.nil,opnP p))
  else if isT [40] p=true then
   (if opnB p=true then ((sumW (unF f) (adv (opnP p))).1,shut (wanP [41] (sumW (unF f) (adv (opnP p))).2)) else (.nil,opnP p))
  else if ((tk p).k==1)=true then (.mk 0 (numW (tk p).t 0) [] .nil .nil,adv p)
  else if nameB p=true then (.mk 1 0 (namS p) .nil .nil,namP p)
  else (.nil,failP 51 p)
def okP (p:Pr):Prop:=0≤p.i∧p.i≤(p.l.length:Int)∧p.l.length≤4096∧0≤p.deep∧p.deep≤40∧∀x∈p.l,x.t.length≤4096
structure Nx (p q:Pr):Prop where
 ok:okP q
 l:q.l=p.l
 en:q.en=p.en
 i:p.i≤q.i
 d:q.deep=p.deep
 e:p.e≠0→q.e=p.e∧q.at'=p.at'
theorem Nx.refl {p:Pr} (h:okP p):Nx p p:=⟨h,rfl,rfl,Int.le_refl _,rfl,fun _=>⟨rfl,rfl⟩⟩
theorem Nx.trans {p q r:Pr} (h1:Nx p q) (h2:Nx q r):Nx p r:=
 ⟨h2.ok,h2.l.trans h1.l,h2.en.trans h1.en,Int.le_trans h1.i h2.i,h2.d.trans h1.d,fun h=>by
  obtain⟨e1,e2⟩:=h1.e h
  obtain⟨e3,e4⟩:=h2.e (by rw[e1];exact h)
  exact⟨e3.trans e1,e4.trans e2⟩⟩
theorem okP.i {p:Pr} (h:okP p):okI p:=⟨h.1,h.2.1,h.2.2.1⟩
theorem isT_e {t:List UInt8} {p:Pr} (h:isT t p=true):p.e=0∧p.i<(p.l.length:Int):=by
 unfold isT at h
 simp only[Bool.and_eq_true,beq_iff_eq,decide_eq_true_eq]at h
 exact⟨h.1.1.1,h.1.1.2⟩
theorem nameB_e {p:Pr} (h:nameB p=true):p.e=0∧p.i<(p.l.length:Int):=by
 unfold nameB at h
 simp only[Bool.and_eq_true,beq_iff_eq,decide_eq_true_eq]at h
 exact⟨h.1.1.1,h.1.1.2⟩
theorem adv_i {p:Pr} (h:okP p) (hi:p.i<(p.l.length:Int)):(adv p).i=p.i+1:=by
 obtain⟨h1,h2,h3,_⟩:=h
 show w64i (p.i+1)=_
 unfold w64i
 rw[wrap_i64 (by omega) (by omega)]
theorem adv_nx {p:Pr} (h:okP p) (hi:p.i<(p.l.length:Int)) (he:p.e=0):Nx p (adv p):=by
 have e:=adv_i h hi
 obtain⟨h1,h2,h3,h4,h5,h6⟩:=h
 exact⟨⟨by rw[e];omega,by rw[e];show p.i+1≤(p.l.length:Int);omega,h3,h4,h5,h6⟩,rfl,rfl,by rw[e];omega,rfl,fun h=>absurd he h⟩
theorem failP_e (c:Int) (p:Pr):(failP c p).l=p.l∧(failP c p).i=p.i∧(failP c p).en=p.en∧(failP c p).deep=p.deep∧(failP c p).n=p.n:=by
 unfold failP;split<;>exact⟨rfl,rfl,rfl,rfl,rfl⟩
theorem fail_nx {p:Pr} (c:Int) (h:okP p):Nx p (failP c p):=by
 obtain⟨e1,e2,e3,e4,e5⟩:=failP_e c p
 refine⟨?_,e1,e3,by rw[e2];exact Int.le_refl _,e4,fun he=>?_⟩
 ·unfold okP;rw[e1,e2,e4];exact h
 ·unfold failP;rw[if_neg (by simpa using he)];exact⟨rfl,rfl⟩
theorem tak_nx {t:List UInt8} {p:Pr} (h:okP p):Nx p (takP t p):=by
 unfold takP;split
 ·rename_i hi;exact adv_nx h (isT_e hi).2 (isT_e hi).1
 ·exact .refl h
theorem wan_nx {t:List UInt8} {p:Pr} (h:okP p):Nx p (wanP t p):=by
 unfold wanP;split
 ·rename_i hi;exact adv_nx h (isT_e hi).2 (isT_e hi).1
 ·exact fail_nx 51 h
theorem nam_nx {p:Pr} (h:okP p):Nx p (namP p):=by
 unfold namP;split
 ·rename_i hi;exact adv_nx h (nameB_e hi).2 (nameB_e hi).1
 ·exact fail_nx 51 h
theorem opn_no {p:Pr} (h:okP p) (hb:opnB p=false):Nx p (opnP p):=by
 unfold opnB at hb
 unfold opnP
 split
 ·rename_i he
  rw[he]at hb
  simp only[Bool.true_and,Bool.not_eq_false']at hb
  rw[if_pos hb]
  exact fail_nx 52 h
 ·exact .refl h
theorem opn_e {p:Pr} (h:okP p) (hb:opnB p=true):p.e=0∧p.deep<40∧opnP p={ p with deep:=p.deep+1 }:=by
 unfold opnB at hb
 simp only[Bool.and_eq_true,beq_iff_eq,Bool.not_eq_true',decide_eq_false_iff_not]at hb
 obtain⟨h1,h2,h3,h4,h5,h6⟩:=h
 refine⟨hb.1,by omega,?_⟩
 unfold opnP
 rw[if_pos (by simpa using hb.1),if_neg (by simpa using hb.2)]
 unfold w64i
 rw[wrap_i64 (by omega) (by omega)]
theorem opn_ok {p:Pr} (h:okP p) (hb:opnB p=true):okP (opnP p):=by
 obtain⟨h1,h2,h3⟩:=opn_e h hb
 rw[h3]
 obtain⟨h1,h2,h3,h4,h5,h6⟩:=h
 exact⟨h1,h2,h3,by show 0≤p.deep+1;omega,by show p.deep+1≤40;omega,h6⟩
theorem shut_nx {p q:Pr} (h:okP p) (hb:opnB p=true) (hq:Nx (opnP p) q):Nx p (shut q):=by
 obtain⟨h1,h2,h3⟩:=opn_e h hb
 obtain⟨⟨o1,o2,o3,o4,o5,o6⟩,e1,e2,e3,e4,e6⟩:=hq
 rw[h3]at e1 e2 e3 e4 e6
 simp only at e1 e2 e3 e4 e6
 have hd:(shut q).deep=p.deep:=by
  show w64i (q.deep-1)=_
  rw[e4];unfold w64i
  rw[wrap_i64 (by omega) (by omega)];omega
 obtain⟨k1,k2,k3,k4,k5,k6⟩:=h
 exact⟨⟨o1,o2,o3,by rw[hd];exact k4,by rw[hd];exact k5,o6⟩,e1,e2,e3,hd,fun he=>absurd h1 he⟩
theorem prodL_nx {u:Pr→R Ex} (hu:∀p,okP p→Nx p (u p).2):∀(k:Nat) (a:Ex) (p:Pr),okP p→Nx p (prodL u k a p).2
 |0,a,p,h=>.refl h
 |k+1,a,p,h=>by
  simp only[prodL]
  (repeat' split)
  ·rename_i he hi
   have h1:=adv_nx h (isT_e hi).2 (isT_e hi).1
   have h2:=hu _ h1.ok
   exact(h1.trans h2).trans (prodL_nx hu k _ _ h2.ok)
  ·rename_i he _ hi
   have h1:=adv_nx h (isT_e hi).2 (isT_e hi).1
   have h2:=hu _ h1.ok
   exact(h1.trans h2).trans (prodL_nx hu k _ _ h2.ok)
  ·rename_i he _ _ hi
   have h1:=adv_nx h (isT_e hi).2 (isT_e hi).1
   have h2:=hu _ h1.ok
   exact(h1.trans h2).trans (prodL_nx hu k _ _ h2.ok)
  ·exact .refl h
  ·exact .refl h
theorem prodW_nx {u:Pr→R Ex} (hu:∀p,okP p→Nx p (u p).2) (p:Pr) (h:okP p):Nx p (prodW u p).2:=(hu p h).trans (prodL_nx hu _ _ _ (hu p h).ok)
theorem sumL_nx {u:Pr→R Ex} (hu:∀p,okP p→Nx p (u p).2):∀(k:Nat) (a:Ex) (p:Pr),okP p→Nx p (sumL u k a p).2
 |0,a,p,h=>.refl h
 |k+1,a,p,h=>by
  simp only[sumL]
  (repeat' split)
  ·rename_i he hi
   have h1:=adv_nx h (isT_e hi).2 (isT_e hi).1
   have h2:=prodW_nx hu _ h1.ok
   exact(h1.trans h2).trans (sumL_nx hu k _ _ h2.ok)
  ·rename_i he _ hi
   have h1:=adv_nx h (isT_e hi).2 (isT_e hi).1
   have h2:=prodW_nx hu _ h1.ok
   exact(h1.trans h2).trans (sumL_nx hu k _ _ h2.ok)
  ·exact .refl h
  ·exact .refl h
theorem sumW_nx {u:Pr→R Ex} (hu:∀p,okP p→Nx p (u p).2) (p:Pr) (h:okP p):Nx p (sumW u p).2:=(prodW_nx hu p h).trans (sumL_nx hu _ _ _ (prodW_nx hu p h).ok)
theorem opn_l {p:Pr} (h:okP p) (hb:opnB p=true):(opnP p).i=p.i∧(opnP p).l=p.l∧(opnP p).e=p.e:=by
 rw[(opn_e h hb).2.2];exact⟨rfl,rfl,rfl⟩
theorem opn_adv {p:Pr} (h:okP p) (hb:opnB p=true) (hi:p.i<(p.l.length:Int)):Nx (opnP p) (adv (opnP p)):=by
 obtain⟨e1,e2,e3⟩:=opn_l h hb
 exact adv_nx (opn_ok h hb) (by rw[e1,e2];exact hi) (by rw[e3];exact(opn_e h hb).1)
theorem un_nx:∀(f:Nat) (p:Pr),okP p→Nx p (unF f p).2
 |0,p,h=>.refl h
 |f+1,p,h=>by
  simp only[unF]
  split
  ·exact fail_nx 51 h
  ·split
   ·rename_i hi
    split
    ·rename_i hb
     have h1:=opn_adv h hb (isT_e hi).2
     exact shut_nx h hb (h1.trans (un_nx f _ h1.ok))
    ·rename_i hb;exact opn_no h (by simpa using hb)
   ·split
    ·rename_i hi
     split
     ·rename_i hb
      have h1:=opn_adv h hb (isT_e hi).2
      have h2:=h1.trans (sumW_nx (un_nx f) _ h1.ok)
      exact shut_nx h hb (h2.trans (wan_nx h2.ok))
     ·rename_i hb;exact opn_no h (by simpa using hb)
    ·split
     ·rename_i ho _ _ _
      unfold outB at ho
      simp only[Bool.or_eq_true,bne_iff_ne,ne_eq,decide_eq_true_eq,not_or,Decidable.not_not]at ho
      exact adv_nx h (by omega) ho.1
     ·split
      ·exact nam_nx h
      ·exact fail_nx 51 h
abbrev dpU (f:Nat) (p:Pr):Prop:=41≤p.deep+(f:Int)
end Go.Proofs.YtbiepiggmagfcaaGreatDoor
